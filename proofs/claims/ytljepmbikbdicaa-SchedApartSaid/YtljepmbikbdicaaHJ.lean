/- Sched: operations of different processors commute. No condition. -/
import Derived.Test.YtljepmbikbdicaaSD
import Derived.Test.YtljepmbikbdicaaSF
import Derived.Test.YtljepmbikbdicaaSE
set_option maxRecDepth 100000
set_option linter.unusedVariables false
set_option linter.unusedSimpArgs false
namespace Go.Proofs.Ytljepmbikbdicaa
open Go.AM
/-- What changes is of the processor c. -/
structure Fr (c : Nat) (s t : S) : Prop where
  qu : t.quantum = s.quantum
  cl : t.cpus.length = s.cpus.length
  tl : t.thr.length = s.thr.length
  cp : ∀ d, d ≠ c → t.cpus[d]? = s.cpus[d]?
  th : ∀ (i : Nat) (x : T), x.cpu ≠ c → (t.thr[i]? = some x ↔ s.thr[i]? = some x)
def S.own (s : S) (c : Nat) (x : Int) : Prop := ∃ t, s.thr[x.toNat]? = some t ∧ t.cpu = c
def S.qOk (s : S) (c : Nat) (q : Q) : Prop := (∀ x ∈ q.ready, s.own c x) ∧ (q.run = -1 ∨ 0 ≤ q.run ∧ s.own c q.run)
/-- Alike, as far as the processor c is concerned. -/
structure Sim (c : Nat) (s t : S) : Prop where
  qu : t.quantum = s.quantum
  cp : t.cpus[c]? = s.cpus[c]?
  th : ∀ (i : Nat) (x : T), x.cpu = c → (s.thr[i]? = some x ↔ t.thr[i]? = some x)
  ok : ∀ q, s.cpus[c]? = some q → s.qOk c q
theorem Fr.refl (c : Nat) (s : S) : Fr c s s := ⟨rfl, rfl, rfl, fun _ _ => rfl, fun _ _ _ => Iff.rfl⟩
theorem Fr.trans {c : Nat} {s t u : S} (h : Fr c s t) (g : Fr c t u) : Fr c s u :=
  ⟨g.qu.trans h.qu, g.cl.trans h.cl, g.tl.trans h.tl, fun d hd => (g.cp d hd).trans (h.cp d hd), fun i x hx => (g.th i x hx).trans (h.th i x hx)⟩
theorem own_of {s : S} {c : Nat} {i : Nat} {t : T} (ht : s.thr[i]? = some t) (hc : t.cpu = c) : s.own c i := ⟨t, by simpa using ht, hc⟩
theorem Fr.modT {c : Nat} {s : S} {i : Nat} {t t' : T} (ht : s.thr[i]? = some t) (h1 : t.cpu = c) (h2 : t'.cpu = c) : Fr c s (s.modT i t') := by
  refine ⟨rfl, rfl, by simp [S.modT], fun _ _ => rfl, fun j x hx => ?_⟩
  simp only [S.modT, List.getElem?_set]
  by_cases e : i = j
  · subst e
    have hl := (List.getElem?_eq_some_iff.1 ht).1
    simp only [if_true, hl, ht, Option.some.injEq]
    constructor <;> (intro e; subst e; omega)
  · simp [e]
theorem Fr.setQ {c : Nat} {s : S} {q : Q} : Fr c s (s.setQ c q) := ⟨rfl, by simp [S.setQ], rfl, fun d hd => setQ_ne hd, fun _ _ _ => Iff.rfl⟩
theorem own_modT {s : S} {c i : Nat} {t' : T} {x : Int} (h2 : t'.cpu = c) (h : s.own c x) : (s.modT i t').own c x := by
  obtain ⟨t, ht, hc⟩ := h
  unfold S.own S.modT
  simp only [List.getElem?_set]
  by_cases e : i = x.toNat
  · subst e
    have hl := (List.getElem?_eq_some_iff.1 ht).1
    exact ⟨t', by simp [hl], h2⟩
  · exact ⟨t, by simp [e, ht], hc⟩
theorem qOk_modT {s : S} {c i : Nat} {t' : T} {q : Q} (h2 : t'.cpu = c) (h : s.qOk c q) : (s.modT i t').qOk c q :=
  ⟨fun x hx => own_modT h2 (h.1 x hx), h.2.imp_right fun e => ⟨e.1, own_modT h2 e.2⟩⟩
/-- From two states to two states. -/
structure Two (c : Nat) (s s' r r' : S) : Prop where
  f : Fr c s r
  f' : Fr c s' r'
  m : Sim c r r'
section
variable {c : Nat} {s s' r r' : S}
theorem Two.modT (h : Two c s s' r r') {i : Nat} {t t' : T} (ht : r.thr[i]? = some t) (h1 : t.cpu = c) (h2 : t'.cpu = c) : Two c s s' (r.modT i t') (r'.modT i t') := by
  have ht' := (h.m.th i t h1).1 ht
  refine ⟨h.f.trans (Fr.modT ht h1 h2), h.f'.trans (Fr.modT ht' h1 h2), h.m.qu, h.m.cp, fun j x hx => ?_, fun q hq => qOk_modT h2 (h.m.ok q hq)⟩
  simp only [S.modT, List.getElem?_set]
  by_cases e : i = j
  · subst e
    have hl := (List.getElem?_eq_some_iff.1 ht).1
    have hl' := (List.getElem?_eq_some_iff.1 ht').1
    simp [hl, hl']
  · simpa [e] using h.m.th j x hx
theorem Two.setQ (h : Two c s s' r r') {q : Q} (hq : r.qOk c q) : Two c s s' (r.setQ c q) (r'.setQ c q) := by
  refine ⟨h.f.trans Fr.setQ, h.f'.trans Fr.setQ, h.m.qu, ?_, h.m.th, fun q' hq' => ?_⟩
  · have hl : r.cpus.length ≤ c ↔ r'.cpus.length ≤ c := by
      rw [← List.getElem?_eq_none_iff, ← List.getElem?_eq_none_iff, h.m.cp]
    simp only [S.setQ, List.getElem?_set, if_true]
    by_cases e : c < r.cpus.length
    · rw [if_pos e, if_pos (by omega)]
    · rw [if_neg e, if_neg (by omega)]
  · rcases setQ_get hq' with ⟨_, rfl⟩ | ⟨e, _⟩
    · exact hq
    · exact absurd rfl e
theorem Sim.pri (h : Sim c r r') {x : Int} (hx : r.own c x) : r'.pri x = r.pri x := by
  obtain ⟨t, ht, hc⟩ := hx
  simp only [S.pri, ht, (h.th _ t hc).1 ht]
theorem qOk_out {q : Q} (h : r.qOk c q) (i : Int) : r.qOk c (q.out i) := by
  refine ⟨fun x hx => h.1 x (List.mem_of_mem_erase hx), ?_⟩
  simp only [Q.out]
  split
  · exact .inl rfl
  · exact h.2
theorem Two.take (h : Two c s s' r r') {i : Nat} {t : T} {q : Q} (ht : r.thr[i]? = some t) (h1 : t.cpu = c) (hq : r.cpus[c]? = some q) : Two c s s' (r.take i) (r'.take i) := by
  have ht' := (h.m.th i t h1).1 ht
  have hcc : t.cpu.toNat = c := by omega
  have hq' : r'.cpus[c]? = some q := h.m.cp.trans hq
  rw [S.take_eq ht (by rw [hcc]; exact hq), S.take_eq ht' (by rw [hcc]; exact hq'), hcc]
  exact h.setQ (qOk_out (h.m.ok q hq) i)
theorem idxF_congr {p p' : Int → Bool} : ∀ {l : List Int} {i : Int}, (∀ x ∈ l, p x = p' x) → idxF p l i = idxF p' l i
  | [], i, _ => rfl
  | y :: l, i, h => by
    simp only [idxF, h y (by simp)]
    rw [idxF_congr (l := l) fun x hx => h x (List.mem_cons_of_mem _ hx)]
theorem below_congr (h : Sim c r r') (p : Int) (f : Bool) {x : Int} (hx : r.own c x) : r'.below p f x = r.below p f x := by simp only [S.below, h.pri hx]
theorem Two.put (h : Two c s s' r r') {i : Nat} {t : T} {q : Q} (ht : r.thr[i]? = some t) (h1 : t.cpu = c) (hq : r.cpus[c]? = some q) (f : Bool) : Two c s s' (r.put i f) (r'.put i f) := by
  have ht' := (h.m.th i t h1).1 ht
  have hcc : t.cpu.toNat = c := by omega
  have hq' : r'.cpus[c]? = some q := h.m.cp.trans hq
  have hok := h.m.ok q hq
  rw [S.put_eq ht (by rw [hcc]; exact hq), S.put_eq ht' (by rw [hcc]; exact hq'), hcc, idxF_congr (p := r'.below t.pri f) (p' := r.below t.pri f) fun x hx => below_congr h.m _ _ (hok.1 x hx)]
  refine (h.modT ht h1 (t' := { t with st := 1 }) h1).setQ (q := { q with ready := ins q.ready (idxF (r.below t.pri f) q.ready 0) i }) ?_
  refine qOk_modT h1 ⟨fun x hx => ?_, hok.2⟩
  rcases mem_ins hx with hx | rfl
  · exact hok.1 x hx
  · exact own_of ht h1
theorem Two.setSt (h : Two c s s' r r') {i : Nat} {t : T} (ht : r.thr[i]? = some t) (h1 : t.cpu = c) (st : Int) : Two c s s' (r.setSt i st) (r'.setSt i st) := by
  rw [setSt_modT ht, setSt_modT ((h.m.th i t h1).1 ht)]
  exact h.modT ht h1 h1
theorem Two.setPri (h : Two c s s' r r') {i : Nat} {t : T} (ht : r.thr[i]? = some t) (h1 : t.cpu = c) (p : Int) : Two c s s' (r.setPri i p) (r'.setPri i p) := by
  rw [setPri_modT ht, setPri_modT ((h.m.th i t h1).1 ht)]
  exact h.modT ht h1 h1
theorem Sim.due (h : Sim c r r') : r'.due c = r.due c := by
  cases hq : r.cpus[c]? with
  | none => simp only [S.due, h.cp, hq]
  | some q =>
    have hok := h.ok q hq
    rw [S.due_eq hq, S.due_eq (h.cp.trans hq)]
    cases hx : q.ready with
    | nil => rfl
    | cons x l =>
      simp only
      split
      · rfl
      · rename_i hr
        rw [h.pri (hok.1 x (by simp [hx])), h.pri (hok.2.resolve_left hr).2]
theorem Two.fore (h : Two c s s' r r') {q : Q} (hq : r.cpus[c]? = some q) (h0 : ∀ x ∈ q.ready, 0 ≤ x) : Two c s s' (r.fore c) (r'.fore c) := by
  have hok := h.m.ok q hq
  simp only [S.fore, hq, h.m.cp.trans hq]
  cases hx : q.ready with
  | nil => exact h
  | cons x l =>
    simp only [h.m.qu]
    have hown := hok.1 x (by simp [hx])
    have hx0 := h0 x (by simp [hx])
    obtain ⟨t, ht, hc⟩ := id hown
    exact (h.setQ (q := ⟨x, r.quantum, l⟩) ⟨fun y hy => hok.1 y (by simp [hx, hy]), .inr ⟨hx0, hown⟩⟩).setSt (i := x.toNat) (t := t) ht hc 2
theorem S.Ok.qOk (h : s.Ok) {q : Q} (hq : s.cpus[c]? = some q) : s.qOk c q := by
  refine ⟨fun x hx => ?_, ?_⟩
  · obtain ⟨i, t, rfl, ht, htc, _⟩ := S.is_thr ((h.rdy c q hq).1 x hx)
    exact own_of ht htc
  · rcases h.run c q hq with e | e
    · exact .inl e.1
    · obtain ⟨i, t, hi, ht, htc, _⟩ := S.is_thr e.1
      rw [hi]
      exact .inr ⟨by omega, own_of ht htc⟩
theorem Two.sw (h : s.Ok) (h' : s'.Ok) (hm : Sim c s s') {q : Q} (hq : s.cpus[c]? = some q) : Two c s s' (s.sw c) (s'.sw c) := by
  have h0 : Two c s s' s s' := ⟨Fr.refl _ _, Fr.refl _ _, hm⟩
  have hok := hm.ok q hq
  simp only [S.sw, hq, hm.cp.trans hq, hm.due, hm.qu]
  split
  · rename_i hd
    obtain ⟨q1, x, l, g1, g2, g3, _⟩ := h.back hq hd
    have hb : Two c s s' (s.back q) (s'.back q) := by
      unfold S.back
      split
      · rename_i hr
        obtain ⟨t, ht, hc⟩ := (hok.2.resolve_left (by omega)).2
        exact h0.put ht hc hq _
      · exact h0
    refine hb.fore g1 fun y hy => ?_
    obtain ⟨q2, _⟩ := at_lt (List.getElem?_eq_some_iff.1 hq).1
    -- the queue behind is the queue and the thread
    unfold S.back at g1
    split at g1
    · rename_i hr
      obtain ⟨t, ht, hc⟩ := (hok.2.resolve_left (by omega)).2
      have hcc : t.cpu.toNat = c := by omega
      rw [S.put_eq ht (by rw [hcc]; exact hq), hcc] at g1
      have hlc := (List.getElem?_eq_some_iff.1 hq).1
      simp [hlc] at g1
      subst g1
      rcases mem_ins hy with hy | rfl
      · exact (S.is_lt ((h.rdy c q hq).1 y hy)).1
      · omega
    · rw [hq] at g1
      cases g1
      exact (S.is_lt ((h.rdy c q hq).1 y hy)).1
  · split
    · exact h0.setQ ⟨hok.1, hok.2⟩
    · exact h0
def S.of (s : S) (k n : Int) : Int :=
  if (1 ≤ k ∧ k ≤ 4) ∧ 0 ≤ n ∧ n < s.thr.length then match s.thr[n.toNat]? with
    | some t => t.cpu
    | none => 0
  else if (5 ≤ k ∧ k ≤ 7) ∧ 0 ≤ n ∧ n < s.cpus.length then n else -1
theorem Two.opt (h : s.Ok) (h' : s'.Ok) (hm : Sim c s s') {k n p : Int} {P : Prop} [Decidable P] (e : (s.op k n p).1 = if P then some r else none) (e' : (s'.op k n p).1 = if P then some r' else none) (g : P → Two c s s' r r') : Two c s s' (s.done k n p) (s'.done k n p) := by
  simp only [S.done, if_pos ((valid_iff s).2 h), if_pos ((valid_iff s').2 h'), e, e']
  by_cases hp : P
  · simp only [if_pos hp, Option.getD_some]
    exact g hp
  · simp only [if_neg hp, Option.getD_none]
    exact ⟨Fr.refl _ _, Fr.refl _ _, hm⟩
theorem of_cases {k n : Int} (h : s.Ok) (ho : s.of k n = c) : (∃ (i : Nat) (t : T), (k = 1 ∨ k = 2 ∨ k = 3 ∨ k = 4) ∧ n = i ∧ s.thr[i]? = some t ∧ t.cpu = c) ∨ ((k = 5 ∨ k = 6 ∨ k = 7) ∧ n = c ∧ c < s.cpus.length) := by
  unfold S.of at ho
  split at ho
  · rename_i hg
    left
    obtain ⟨i, rfl⟩ : ∃ i : Nat, n = i := ⟨n.toNat, by omega⟩
    obtain ⟨t, ht⟩ : ∃ t, s.thr[i]? = some t := at_lt (by omega)
    rw [Int.toNat_natCast, ht] at ho
    exact ⟨i, t, by omega, rfl, ht, ho⟩
  · split at ho
    · right; exact ⟨by omega, by omega, by omega⟩
    · omega
theorem two_op (h : s.Ok) (h' : s'.Ok) (hm : Sim c s s') {k n : Int} (p : Int) (ho : s.of k n = c) : Two c s s' (s.done k n p) (s'.done k n p) := by
  have h0 : Two c s s' s s' := ⟨Fr.refl _ _, Fr.refl _ _, hm⟩
  rcases of_cases h ho with ⟨i, t, hk, rfl, ht, hc⟩ | ⟨hk, rfl, hl⟩
  · have ht' := (hm.th i t hc).1 ht
    have hbd := h.bd ht
    obtain ⟨q, hq⟩ : ∃ q, s.cpus[c]? = some q := at_lt (by omega)
    have etk : (s.take i).thr[i]? = some t := take_get ht
    have ecp : ∃ q', (s.take i).cpus[c]? = some q' := at_lt (by rw [take_len]; omega)
    obtain ⟨q', hq'⟩ := ecp
    rcases hk with rfl | rfl | rfl | rfl
    · exact Two.opt h h' hm (P := t.st ∈ [1, 2, 3]) (by simp only [S.op, S.eEnd, th_nat, ht]; rfl) (by simp only [S.op, S.eEnd, th_nat, ht']; rfl) fun _ => (h0.take ht hc hq).setSt etk hc 4
    · exact Two.opt h h' hm (P := t.st ∈ [1, 2]) (by simp only [S.op, S.eBlock, th_nat, ht]; rfl) (by simp only [S.op, S.eBlock, th_nat, ht']; rfl) fun _ => (h0.take ht hc hq).setSt etk hc 3
    · exact Two.opt h h' hm (P := t.st ∈ [3]) (by simp only [S.op, S.eWake, th_nat, ht]; rfl) (by simp only [S.op, S.eWake, th_nat, ht']; rfl) fun _ => h0.put ht hc hq false
    · refine Two.opt h h' hm (P := t.st ∈ [1, 2, 3] ∧ 0 ≤ p ∧ p ≤ 7) (by simp only [S.op, S.eSetPri, th_nat, ht]; rfl) (by simp only [S.op, S.eSetPri, th_nat, ht']; rfl) fun _ => ?_
      simp only [Int.toNat_natCast]
      split
      · have e2 : ((s.take i).setPri i p).thr[i]? = some { t with pri := p } := by rw [setPri_modT etk]; exact modT_get etk
        have e3 : ((s.take i).setPri i p).cpus[c]? = some q' := by rw [setPri_cpl]; exact hq'
        exact ((h0.take ht hc hq).setPri etk hc p).put e2 hc e3 false
      · exact h0.setPri ht hc p
  · obtain ⟨q, hq⟩ : ∃ q, s.cpus[c]? = some q := at_lt hl
    have hq' : s'.cpus[c]? = some q := hm.cp.trans hq
    have hok := hm.ok q hq
    rcases hk with rfl | rfl | rfl
    · exact Two.opt h h' hm (P := True) (by simp only [S.op, cp_nat, hq]; rfl) (by simp only [S.op, cp_nat, hq']; rfl) fun _ => Two.sw h h' hm hq
    · refine Two.opt h h' hm (P := True) (by simp only [S.op, cp_nat, hq]; rfl) (by simp only [S.op, cp_nat, hq']; rfl) fun _ => ?_
      simp only [Int.toNat_natCast, S.tick, hq, hq']
      exact h0.setQ ⟨hok.1, hok.2⟩
    · exact Two.opt h h' hm (P := 0 ≤ q.run) (by simp only [S.op, S.eYield, cp_nat, hq]; rfl) (by simp only [S.op, S.eYield, cp_nat, hq']; rfl) fun _ => h0.setQ (q := { q with left := 0 }) ⟨hok.1, hok.2⟩
theorem Sim.refl (h : s.Ok) (c : Nat) : Sim c s s := ⟨rfl, rfl, fun _ _ _ => Iff.rfl, fun q hq => h.qOk hq⟩
theorem Fr.sim (h : s.Ok) {d : Nat} (hd : c ≠ d) (f : Fr d s r) : Sim c s r := ⟨f.qu, f.cp c hd, fun i x hx => (f.th i x (by omega)).symm, fun q hq => h.qOk hq⟩
theorem Fr.of (f : Fr c s r) {d : Nat} (hd : d ≠ c) {k n : Int} (h : s.of k n = d) : r.of k n = d := by
  unfold S.of at h ⊢
  rw [f.cl, f.tl]
  split at h
  · rename_i hg
    rw [if_pos hg]
    obtain ⟨t, ht⟩ : ∃ t, s.thr[n.toNat]? = some t := at_lt (by omega)
    rw [ht] at h
    have h' : t.cpu = d := h
    rw [(f.th _ t (by omega)).2 ht]
    exact h
  · rename_i hg
    rw [if_neg hg]
    exact h
theorem apart (h : s.Ok) {d : Nat} (hcd : c ≠ d) {k n p k' n' p' : Int} (hx : s.of k n = c) (hy : s.of k' n' = d) : (s.done k n p).done k' n' p' = (s.done k' n' p').done k n p := by
  have ta := two_op h h (Sim.refl h c) p hx
  have tb := two_op h h (Sim.refl h d) p' hy
  have ha := (h.keeps k n p).ok
  have hb := (h.keeps k' n' p').ok
  have tc := two_op h hb (tb.f.sim h hcd) p hx
  have td := two_op h ha (ta.f.sim h (fun e => hcd e.symm)) p' hy
  generalize (s.done k n p).done k' n' p' = u at *
  generalize (s.done k' n' p').done k n p = v at *
  generalize s.done k n p = a at *
  generalize s.done k' n' p' = b at *
  have hc : u.cpus = v.cpus := by
    apply List.ext_getElem?
    intro e
    by_cases h1 : e = c
    · subst h1; rw [td.f'.cp e hcd, tc.m.cp]
    · by_cases h2 : e = d
      · subst h2; rw [td.m.cp, tc.f'.cp e (fun e' => hcd e'.symm)]
      · rw [td.f'.cp e h2, ta.f.cp e h1, tc.f'.cp e h1, tb.f.cp e h2]
  have ht : u.thr = v.thr := by
    apply List.ext_getElem?
    intro i
    have key : ∀ x : T, u.thr[i]? = some x ↔ v.thr[i]? = some x := fun x => by
      by_cases h1 : x.cpu = c
      · rw [td.f'.th i x (by omega), tc.m.th i x h1]
      · by_cases h2 : x.cpu = d
        · rw [← td.m.th i x h2, tc.f'.th i x h1]
        · rw [td.f'.th i x h2, ta.f.th i x h1, tc.f'.th i x h1, tb.f.th i x h2]
    cases hu : u.thr[i]? with
    | none =>
      cases hv : v.thr[i]? with
      | none => rfl
      | some y => have := (key y).2 hv; rw [hu] at this; cases this
    | some y => exact ((key y).1 hu).symm
  have hq : u.quantum = v.quantum := by rw [td.f'.qu, ta.f.qu, tc.f'.qu, tb.f.qu]
  obtain ⟨u1, u2, u3⟩ := u
  obtain ⟨v1, v2, v3⟩ := v
  simp only at hc ht hq
  rw [hc, ht, hq]
end
end Go.Proofs.Ytljepmbikbdicaa

set_option maxRecDepth 100000
set_option linter.unusedVariables false
set_option linter.unusedSimpArgs false
namespace Go.Proofs.Ytljepmbikbdicaa
open Go.AM
theorem of_c (s : S) (o : O) : ACalls Try.prog 42 [s.av, .agg o.row] [] (fun x H => x = .ret (iv (s.of o.k o.n)) ∧ H = []) := by
  obtain ⟨k, n, p⟩ := o
  refine ACalls.up ?_
  refine ACalls.intro (cs := [3]) (n := 56) Try.func42 rfl rfl rfl (by kernel_rfl) rfl ?_
  have fin : ∀ v H, v = s.of k n → Up 0 (fun (o : Out) (H : Heap) => o = Out.ret (iv (s.of k n)) ∧ H = []) (.ret (iv v)) H := fun v H e => by subst e; exact .gc 0 (Nat.le_refl _) (Nat.zero_le _) rfl (by simp) (.done ⟨rfl, rfl⟩)
  generalize (fun (o : Out) (H : Heap) => o = Out.ret (iv (s.of k n)) ∧ H = []) = post at fin ⊢
  simp only [go_sem, Nat.reduceAdd, Nat.reduceSub, Nat.reduceMul, Nat.reduceEqDiff, Nat.reduceLeDiff, Nat.reduceLT, ↓reduceIte, Int.reduceToNat, reduceCtorEq, S.av, O.row]
  refine seq_cut (fun _ : Unit => ((Ch.nil.put 2 (.ptr 0 0 0)).put 3 (.ptr 1 0 0)))
    (fun _ => [.rows 3 [[.view false 3 (s.cpus.map Q.row), .view false 3 (s.thr.map T.row), iv s.quantum]], .rows 3 [[iv k, iv n, iv p]]])
    (fun _ => ¬ ((1 ≤ k ∧ k ≤ 4) ∧ 0 ≤ n ∧ n < s.thr.length)) (by kernel_rfl) (fun K hK => ?_) (fun _ hh => ?_)
  · simp only [go_sem, Nat.reduceAdd, Nat.reduceSub, Nat.reduceMul, Nat.reduceEqDiff, Nat.reduceLeDiff, Nat.reduceLT, ↓reduceIte, Int.reduceToNat, reduceCtorEq, Int.cast_ofNat_Int, Int.reduceLT, Int.reduceLE, Int.reduceGT, Int.reduceGE, Int.reduceEq, Int.reduceNe, Int.reduceNeg, Int.reduceAdd, Int.reduceSub, Int.le_refl]
    have out : ∀ X : Prop, (¬ ((1 ≤ k ∧ k ≤ 4) ∧ 0 ≤ n ∧ n < s.thr.length) → X) → (((1 ≤ k ∧ k ≤ 4) ∧ 0 ≤ n ∧ n < s.thr.length) → X) → X := fun X h1 h2 => Decidable.byCases h2 h1
    by_cases h1 : 1 ≤ k
    · by_cases h2 : k ≤ 4
      · by_cases h3 : 0 ≤ n
        · by_cases h4 : n < s.thr.length
          · have h5 : n.toNat < s.thr.length := by omega
            obtain ⟨t, ht⟩ := at_lt h5
            simp only [go_sem, Nat.reduceAdd, Nat.reduceSub, Nat.reduceMul, Nat.reduceEqDiff, Nat.reduceLeDiff, Nat.reduceLT, ↓reduceIte, Int.reduceToNat, reduceCtorEq, Int.cast_ofNat_Int, Int.reduceLT, Int.reduceLE, Int.reduceGT, Int.reduceGE, Int.reduceEq, Int.reduceNe, Int.reduceNeg, Int.reduceAdd, Int.reduceSub, Int.le_refl, h1, h2, h3, h4, h5, List.length_map, List.getElem?_map, ht, T.row]
            exact fin _ _ (by rw [S.of, if_pos (by omega), ht])
          · simp only [go_sem, Nat.reduceAdd, Nat.reduceSub, Nat.reduceMul, Nat.reduceEqDiff, Nat.reduceLeDiff, Nat.reduceLT, ↓reduceIte, Int.reduceToNat, reduceCtorEq, Int.cast_ofNat_Int, Int.reduceLT, Int.reduceLE, Int.reduceGT, Int.reduceGE, Int.reduceEq, Int.reduceNe, Int.reduceNeg, Int.reduceAdd, Int.reduceSub, Int.le_refl, h1, h2, h3, h4, List.length_map]
            exact hK () _ _ (by omega) (Wk.slots (by simp [wkS, Ch.get]))
        · simp only [go_sem, Nat.reduceAdd, Nat.reduceSub, Nat.reduceMul, Nat.reduceEqDiff, Nat.reduceLeDiff, Nat.reduceLT, ↓reduceIte, Int.reduceToNat, reduceCtorEq, Int.cast_ofNat_Int, Int.reduceLT, Int.reduceLE, Int.reduceGT, Int.reduceGE, Int.reduceEq, Int.reduceNe, Int.reduceNeg, Int.reduceAdd, Int.reduceSub, Int.le_refl, h1, h2, h3]
          exact hK () _ _ (by omega) (Wk.slots (by simp [wkS, Ch.get]))
      · simp only [go_sem, Nat.reduceAdd, Nat.reduceSub, Nat.reduceMul, Nat.reduceEqDiff, Nat.reduceLeDiff, Nat.reduceLT, ↓reduceIte, Int.reduceToNat, reduceCtorEq, Int.cast_ofNat_Int, Int.reduceLT, Int.reduceLE, Int.reduceGT, Int.reduceGE, Int.reduceEq, Int.reduceNe, Int.reduceNeg, Int.reduceAdd, Int.reduceSub, Int.le_refl, h1, h2]
        exact hK () _ _ (by omega) (Wk.slots (by simp [wkS, Ch.get]))
    · simp only [go_sem, Nat.reduceAdd, Nat.reduceSub, Nat.reduceMul, Nat.reduceEqDiff, Nat.reduceLeDiff, Nat.reduceLT, ↓reduceIte, Int.reduceToNat, reduceCtorEq, Int.cast_ofNat_Int, Int.reduceLT, Int.reduceLE, Int.reduceGT, Int.reduceGE, Int.reduceEq, Int.reduceNe, Int.reduceNeg, Int.reduceAdd, Int.reduceSub, Int.le_refl, h1]
      exact hK () _ _ (by omega) (Wk.slots (by simp [wkS, Ch.get]))
  · simp only [go_sem, Nat.reduceAdd, Nat.reduceSub, Nat.reduceMul, Nat.reduceEqDiff, Nat.reduceLeDiff, Nat.reduceLT, ↓reduceIte, Int.reduceToNat, reduceCtorEq, Int.cast_ofNat_Int, Int.reduceLT, Int.reduceLE, Int.reduceGT, Int.reduceGE, Int.reduceEq, Int.reduceNe, Int.reduceNeg, Int.reduceAdd, Int.reduceSub, Int.le_refl]
    by_cases h1 : 5 ≤ k
    · by_cases h2 : k ≤ 7
      · by_cases h3 : 0 ≤ n
        · by_cases h4 : n < s.cpus.length
          · simp only [go_sem, Nat.reduceAdd, Nat.reduceSub, Nat.reduceMul, Nat.reduceEqDiff, Nat.reduceLeDiff, Nat.reduceLT, ↓reduceIte, Int.reduceToNat, reduceCtorEq, Int.cast_ofNat_Int, Int.reduceLT, Int.reduceLE, Int.reduceGT, Int.reduceGE, Int.reduceEq, Int.reduceNe, Int.reduceNeg, Int.reduceAdd, Int.reduceSub, Int.le_refl, h1, h2, h3, h4, List.length_map]
            exact fin _ _ (by rw [S.of, if_neg hh, if_pos (by omega)])
          · simp only [go_sem, Nat.reduceAdd, Nat.reduceSub, Nat.reduceMul, Nat.reduceEqDiff, Nat.reduceLeDiff, Nat.reduceLT, ↓reduceIte, Int.reduceToNat, reduceCtorEq, Int.cast_ofNat_Int, Int.reduceLT, Int.reduceLE, Int.reduceGT, Int.reduceGE, Int.reduceEq, Int.reduceNe, Int.reduceNeg, Int.reduceAdd, Int.reduceSub, Int.le_refl, h1, h2, h3, h4, List.length_map]
            exact fin _ _ (by rw [S.of, if_neg hh, if_neg (by omega)])
        · simp only [go_sem, Nat.reduceAdd, Nat.reduceSub, Nat.reduceMul, Nat.reduceEqDiff, Nat.reduceLeDiff, Nat.reduceLT, ↓reduceIte, Int.reduceToNat, reduceCtorEq, Int.cast_ofNat_Int, Int.reduceLT, Int.reduceLE, Int.reduceGT, Int.reduceGE, Int.reduceEq, Int.reduceNe, Int.reduceNeg, Int.reduceAdd, Int.reduceSub, Int.le_refl, h1, h2, h3]
          exact fin _ _ (by rw [S.of, if_neg hh, if_neg (by omega)])
      · simp only [go_sem, Nat.reduceAdd, Nat.reduceSub, Nat.reduceMul, Nat.reduceEqDiff, Nat.reduceLeDiff, Nat.reduceLT, ↓reduceIte, Int.reduceToNat, reduceCtorEq, Int.cast_ofNat_Int, Int.reduceLT, Int.reduceLE, Int.reduceGT, Int.reduceGE, Int.reduceEq, Int.reduceNe, Int.reduceNeg, Int.reduceAdd, Int.reduceSub, Int.le_refl, h1, h2]
        exact fin _ _ (by rw [S.of, if_neg hh, if_neg (by omega)])
    · simp only [go_sem, Nat.reduceAdd, Nat.reduceSub, Nat.reduceMul, Nat.reduceEqDiff, Nat.reduceLeDiff, Nat.reduceLT, ↓reduceIte, Int.reduceToNat, reduceCtorEq, Int.cast_ofNat_Int, Int.reduceLT, Int.reduceLE, Int.reduceGT, Int.reduceGE, Int.reduceEq, Int.reduceNe, Int.reduceNeg, Int.reduceAdd, Int.reduceSub, Int.le_refl, h1]
      exact fin _ _ (by rw [S.of, if_neg hh, if_neg (by omega)])
theorem apart_c (s : S) (x y : O) : ACalls Try.prog 12 [s.av, .agg x.row, .agg y.row] [] (fun o H => o = .ret (.bool true) ∧ H = []) := by
  refine ACalls.up ?_
  refine ACalls.intro (cs := []) (n := 49) Try.func12 rfl rfl rfl (by kernel_rfl) rfl ?_
  have fin : ∀ b H, b = true → Up 0 (fun (o : Out) (H : Heap) => o = Out.ret (.bool true) ∧ H = []) (.ret (.bool b)) H := fun b H e => by subst e; exact up_bool ⟨rfl, rfl⟩
  generalize (fun (o : Out) (H : Heap) => o = Out.ret (.bool true) ∧ H = []) = post at fin ⊢
  simp only [go_sem, Nat.reduceAdd, Nat.reduceSub, Nat.reduceMul, Nat.reduceEqDiff, Nat.reduceLeDiff, Nat.reduceLT, ↓reduceIte, Int.reduceToNat, reduceCtorEq, S.av, O.row]
  refine rK_use (enters_of Try.func13 rfl (by decide)) (ACalls.pure_use (sane_c) rfl rfl) ?_
  have h1 := of_c s x
  have h2 := of_c s y
  have d1 := by_c s x
  have d2 := by_c s y
  have d3 := by_c (s.by x) y
  have d4 := by_c (s.by y) x
  have hsm := Same_c ((s.by x).by y) ((s.by y).by x)
  simp only [go_sem, Nat.reduceAdd, Nat.reduceSub, Nat.reduceMul, Nat.reduceEqDiff, Nat.reduceLeDiff, Nat.reduceLT, ↓reduceIte, Int.reduceToNat, reduceCtorEq]
  refine draw [.qu 0 0, .qu 0 0, .qu 0 0, .qu 0 0, .mn 0, .qu 1 1, .qu 1 1, .qu 1 1, .qu 1 1, .qu 1 1, .mn 1, .qu 2 2, .qu 2 2, .qu 2 2, .qu 2 2, .qu 2 2, .mn 2, .qu 3 3, .qu 3 3, .qu 3 3, .qu 3 3, .qu 3 3, .mn 3, .rd 3 4, .rd 3 4, .mn 4, .qu 5 5, .qu 5 5] (by kernel_rfl) (by kernel_rfl) ?_
  simp only [go_sem, Nat.reduceAdd, Nat.reduceSub, Nat.reduceMul, Nat.reduceEqDiff, Nat.reduceLeDiff, Nat.reduceLT, ↓reduceIte, Int.reduceToNat, reduceCtorEq]
  refine dM_call (enters_of Try.func16 rfl (by decide)) (ACalls.pure_use (Check_c s) rfl rfl) ?_
  by_cases hv : s.valid = true
  rotate_left
  · rw [if_neg hv]
    simp only [go_sem, Nat.reduceAdd, Nat.reduceSub, Nat.reduceMul, Nat.reduceEqDiff, Nat.reduceLeDiff, Nat.reduceLT, ↓reduceIte, Int.reduceToNat, reduceCtorEq, Int.cast_ofNat_Int, Int.reduceLT, Int.reduceLE, Int.reduceGT, Int.reduceGE, Int.reduceEq, Int.reduceNe, Int.reduceNeg, Int.reduceAdd, Int.reduceSub, Int.le_refl]
    exact fin _ _ rfl
  rw [if_pos hv]
  have hok := (valid_iff s).1 hv
  simp only [go_sem, Nat.reduceAdd, Nat.reduceSub, Nat.reduceMul, Nat.reduceEqDiff, Nat.reduceLeDiff, Nat.reduceLT, ↓reduceIte, Int.reduceToNat, reduceCtorEq, Int.cast_ofNat_Int, Int.reduceLT, Int.reduceLE, Int.reduceGT, Int.reduceGE, Int.reduceEq, Int.reduceNe, Int.reduceNeg, Int.reduceAdd, Int.reduceSub, Int.le_refl]
  refine dM_call (enters_of Try.func42 rfl (by decide)) (ACalls.pure_use h1 rfl rfl) ?_
  by_cases g1 : s.of x.k x.n < 0
  · simp only [go_sem, Nat.reduceAdd, Nat.reduceSub, Nat.reduceMul, Nat.reduceEqDiff, Nat.reduceLeDiff, Nat.reduceLT, ↓reduceIte, Int.reduceToNat, reduceCtorEq, Int.cast_ofNat_Int, Int.reduceLT, Int.reduceLE, Int.reduceGT, Int.reduceGE, Int.reduceEq, Int.reduceNe, Int.reduceNeg, Int.reduceAdd, Int.reduceSub, Int.le_refl, g1]
    exact fin _ _ rfl
  simp only [go_sem, Nat.reduceAdd, Nat.reduceSub, Nat.reduceMul, Nat.reduceEqDiff, Nat.reduceLeDiff, Nat.reduceLT, ↓reduceIte, Int.reduceToNat, reduceCtorEq, Int.cast_ofNat_Int, Int.reduceLT, Int.reduceLE, Int.reduceGT, Int.reduceGE, Int.reduceEq, Int.reduceNe, Int.reduceNeg, Int.reduceAdd, Int.reduceSub, Int.le_refl, g1]
  refine dM_call (enters_of Try.func42 rfl (by decide)) (ACalls.pure_use h2 rfl rfl) ?_
  by_cases g2 : s.of y.k y.n < 0
  · simp only [go_sem, Nat.reduceAdd, Nat.reduceSub, Nat.reduceMul, Nat.reduceEqDiff, Nat.reduceLeDiff, Nat.reduceLT, ↓reduceIte, Int.reduceToNat, reduceCtorEq, Int.cast_ofNat_Int, Int.reduceLT, Int.reduceLE, Int.reduceGT, Int.reduceGE, Int.reduceEq, Int.reduceNe, Int.reduceNeg, Int.reduceAdd, Int.reduceSub, Int.le_refl, g2]
    exact fin _ _ rfl
  simp only [go_sem, Nat.reduceAdd, Nat.reduceSub, Nat.reduceMul, Nat.reduceEqDiff, Nat.reduceLeDiff, Nat.reduceLT, ↓reduceIte, Int.reduceToNat, reduceCtorEq, Int.cast_ofNat_Int, Int.reduceLT, Int.reduceLE, Int.reduceGT, Int.reduceGE, Int.reduceEq, Int.reduceNe, Int.reduceNeg, Int.reduceAdd, Int.reduceSub, Int.le_refl, g2]
  refine dM_call (enters_of Try.func42 rfl (by decide)) (ACalls.pure_use h1 rfl rfl) ?_
  simp only [go_sem, Nat.reduceAdd, Nat.reduceSub, Nat.reduceMul, Nat.reduceEqDiff, Nat.reduceLeDiff, Nat.reduceLT, ↓reduceIte, Int.reduceToNat, reduceCtorEq, Int.cast_ofNat_Int, Int.reduceLT, Int.reduceLE, Int.reduceGT, Int.reduceGE, Int.reduceEq, Int.reduceNe, Int.reduceNeg, Int.reduceAdd, Int.reduceSub, Int.le_refl]
  refine dM_call (enters_of Try.func42 rfl (by decide)) (ACalls.pure_use h2 rfl rfl) ?_
  by_cases g3 : s.of x.k x.n = s.of y.k y.n
  · simp only [go_sem, Nat.reduceAdd, Nat.reduceSub, Nat.reduceMul, Nat.reduceEqDiff, Nat.reduceLeDiff, Nat.reduceLT, ↓reduceIte, Int.reduceToNat, reduceCtorEq, Int.cast_ofNat_Int, Int.reduceLT, Int.reduceLE, Int.reduceGT, Int.reduceGE, Int.reduceEq, Int.reduceNe, Int.reduceNeg, Int.reduceAdd, Int.reduceSub, Int.le_refl, g3]
    exact fin _ _ rfl
  simp only [go_sem, Nat.reduceAdd, Nat.reduceSub, Nat.reduceMul, Nat.reduceEqDiff, Nat.reduceLeDiff, Nat.reduceLT, ↓reduceIte, Int.reduceToNat, reduceCtorEq, Int.cast_ofNat_Int, Int.reduceLT, Int.reduceLE, Int.reduceGT, Int.reduceGE, Int.reduceEq, Int.reduceNe, Int.reduceNeg, Int.reduceAdd, Int.reduceSub, Int.le_refl, g3]
  have hap : (s.by x).by y = (s.by y).by x := apart (c := (s.of x.k x.n).toNat) (d := (s.of y.k y.n).toNat) hok (by omega) (by omega) (by omega)
  rw [hap] at hsm
  rw [show ((s.by y).by x).same ((s.by y).by x) = true from (S.same_iff _ _).2 rfl] at hsm
  rw [hap] at d3
  refine draw [.qu 0 0, .qu 0 0, .mn 0, .rd 0 1, .mn 1, .rd 0 2, .rd 0 2, .mn 2, .rd 0 3, .mn 3, .mn 4, .qu 5 5] (by kernel_rfl) (by kernel_rfl) ?_
  simp only [go_sem, Nat.reduceAdd, Nat.reduceSub, Nat.reduceMul, Nat.reduceEqDiff, Nat.reduceLeDiff, Nat.reduceLT, ↓reduceIte, Int.reduceToNat, reduceCtorEq, Int.cast_ofNat_Int, Int.reduceLT, Int.reduceLE, Int.reduceGT, Int.reduceGE, Int.reduceEq, Int.reduceNe, Int.reduceNeg, Int.reduceAdd, Int.reduceSub, Int.le_refl]
  refine dM_call (enters_of Try.func41 rfl (by decide)) (ACalls.pure_use d1 rfl rfl) ?_
  simp only [go_sem, Nat.reduceAdd, Nat.reduceSub, Nat.reduceMul, Nat.reduceEqDiff, Nat.reduceLeDiff, Nat.reduceLT, ↓reduceIte, Int.reduceToNat, reduceCtorEq, Int.cast_ofNat_Int, Int.reduceLT, Int.reduceLE, Int.reduceGT, Int.reduceGE, Int.reduceEq, Int.reduceNe, Int.reduceNeg, Int.reduceAdd, Int.reduceSub, Int.le_refl]
  refine dM_call (enters_of Try.func41 rfl (by decide)) (ACalls.pure_use d3 rfl rfl) ?_
  simp only [go_sem, Nat.reduceAdd, Nat.reduceSub, Nat.reduceMul, Nat.reduceEqDiff, Nat.reduceLeDiff, Nat.reduceLT, ↓reduceIte, Int.reduceToNat, reduceCtorEq, Int.cast_ofNat_Int, Int.reduceLT, Int.reduceLE, Int.reduceGT, Int.reduceGE, Int.reduceEq, Int.reduceNe, Int.reduceNeg, Int.reduceAdd, Int.reduceSub, Int.le_refl]
  refine dM_call (enters_of Try.func41 rfl (by decide)) (ACalls.pure_use d2 rfl rfl) ?_
  simp only [go_sem, Nat.reduceAdd, Nat.reduceSub, Nat.reduceMul, Nat.reduceEqDiff, Nat.reduceLeDiff, Nat.reduceLT, ↓reduceIte, Int.reduceToNat, reduceCtorEq, Int.cast_ofNat_Int, Int.reduceLT, Int.reduceLE, Int.reduceGT, Int.reduceGE, Int.reduceEq, Int.reduceNe, Int.reduceNeg, Int.reduceAdd, Int.reduceSub, Int.le_refl]
  refine dM_call (enters_of Try.func41 rfl (by decide)) (ACalls.pure_use d4 rfl rfl) ?_
  simp only [go_sem, Nat.reduceAdd, Nat.reduceSub, Nat.reduceMul, Nat.reduceEqDiff, Nat.reduceLeDiff, Nat.reduceLT, ↓reduceIte, Int.reduceToNat, reduceCtorEq, Int.cast_ofNat_Int, Int.reduceLT, Int.reduceLE, Int.reduceGT, Int.reduceGE, Int.reduceEq, Int.reduceNe, Int.reduceNeg, Int.reduceAdd, Int.reduceSub, Int.le_refl]
  refine dM_call (enters_of Try.func33 rfl (by decide)) (ACalls.pure_use hsm rfl rfl) ?_
  simp only [go_sem, Nat.reduceAdd, Nat.reduceSub, Nat.reduceMul, Nat.reduceEqDiff, Nat.reduceLeDiff, Nat.reduceLT, ↓reduceIte, Int.reduceToNat, reduceCtorEq, Int.cast_ofNat_Int, Int.reduceLT, Int.reduceLE, Int.reduceGT, Int.reduceGE, Int.reduceEq, Int.reduceNe, Int.reduceNeg, Int.reduceAdd, Int.reduceSub, Int.le_refl]
  exact fin _ _ rfl
end Go.Proofs.Ytljepmbikbdicaa

set_option maxRecDepth 100000
set_option linter.unusedVariables false
set_option linter.unusedSimpArgs false
namespace Go.Proofs.Ytljepmbikbdicaa.schedApart
open Go.AM
open Go.ChangeShapes Go.WideShapes Go.ChangeAt Go.RowKit
theorem own : ownKnob Try.prog.godebug = none := by kernel_rfl
theorem lifted (os : Os) (started : os.Started) (H : Type) (enc : TypeId × Value → H) :
    ReturnsInHanded {} Try.checked os 12 .any (Rows.schedApartSpec.pre6 enc Try.prog Try.f12 Rows.schedApartRow.domain false) (Rows.schedApartSpec.post enc Try.prog Try.f12 false true false false) := by
  refine returnsInHanded_of_change (C := Try.checked) own started (by kernel_rfl) Try.func12
    (ChangeSpec.witness6 (enc := enc) (C := Try.checked) false ⟨#[], #[.agg #[.slice none 0 0, .slice none 0 0, .int .i64 0], .agg #[.int .i64 0, .int .i64 0, .int .i64 0], .agg #[.int .i64 0, .int .i64 0, .int .i64 0]], []⟩ 8 (by kernel_rfl) (by kernel_rfl) (by kernel_rfl) (by kernel_rfl)) ?_
  intro W base args ds gs before hval0 hW hcnd _
  have hval : ∀ (j : Nat) t v, Try.f12.params[j]? = some t → args[j]? = some v → Value.okWide Try.prog W .any base t v := hval0
  have hW' := hW
  obtain ⟨p, q, hA0, hV, rfl, hfz, hnd⟩ := hW'
  have hA : DataW.TrodAll enc Try.prog W 0 (fun _ => true) true Try.f12.params.toList args.toList ds p := hA0
  rw [Try.params12] at hA hval
  obtain ⟨v0, vs0, d0, ds0, p0, q0, hargs, rfl, rfl, h0, r0⟩ := trodAll_cons hA
  obtain ⟨v1, vs1, d1, ds1, p1, q1, rfl, rfl, rfl, h1, r1⟩ := trodAll_cons r0
  obtain ⟨v2, vs2, d2, ds2, p2, q2, rfl, rfl, rfl, h2, r2⟩ := trodAll_cons r1
  obtain ⟨rfl, rfl, rfl⟩ := trodAll_nil r2
  obtain rfl : args = #[v0, v1, v2] := by cases args; simp_all
  obtain ⟨a0, g0⟩ := read_sched (hval 0 _ v0 rfl rfl) h0
  obtain ⟨a1, g1⟩ := read_op (hval 1 _ v1 rfl rfl) h1
  obtain ⟨a2, g2⟩ := read_op (hval 2 _ v2 rfl rfl) h2
  refine law_contract (apart_c a0 a1 a2) hW rfl rfl Try.underlying4 rfl lout ?_ (vrs_cons g0 (vrs_cons g1 (vrs_cons g2 vrs_nil)))
  intro t ht
  rw [Try.params12] at ht
  simp only [List.mem_cons, List.not_mem_nil, or_false] at ht
  rcases ht with rfl | rfl | rfl
  · exact rd_sched
  · exact rd_op
  · exact rd_op
theorem over : Rows.schedApartRow.holds Try.pinned (OpenSpec.ofChange Rows.schedApartSpec) :=
  OpenClaim.holds_of_wide 12 Try.f12 rfl rfl rfl rfl rfl rfl rfl ⟨rfl, rfl, rfl, rfl, rfl⟩ rfl rfl rfl rfl rfl (by kernel_rfl) Try.func12 (by kernel_rfl)
    (of_decide_eq_true (by kernel_rfl)) (by unfold Func.isWrapper; first | (rw [if_pos (by decide +kernel)]; kernel_rfl) | (rw [if_neg (by decide +kernel)]; exact ⟨rfl, rfl⟩))
    (fun os started H enc _ => lifted os started H enc)
end Go.Proofs.Ytljepmbikbdicaa.schedApart
namespace Go.Proofs.Ytljepmbikbdicaa
theorem SchedApart_holds : Rows.SchedApartSaid := schedApart.over
end Go.Proofs.Ytljepmbikbdicaa
