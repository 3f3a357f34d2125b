/- Sched: a switch in full. No condition. -/
import Derived.Test.YtljepmbikbdicaaSD
set_option maxRecDepth 100000
set_option linter.unusedVariables false
set_option linter.unusedSimpArgs false
namespace Go.Proofs.Ytljepmbikbdicaa
open Go.AM
theorem S.Ok.swap {s : S} (h : s.Ok) {c : Nat} {q : Q} (hq : s.cpus[c]? = some q) (hd : s.due c = true) (hr : q.run ≠ -1) :
    ∃ (i : Nat) (t : T) (a b : List Int) (x : Int), q.run = i ∧ s.thr[i]? = some t ∧ t.cpu = c ∧ q.ready = x :: a ++ b ∧ (s.sw c).cpus[c]? = some ⟨x, s.quantum, a ++ (i : Int) :: b⟩ ∧ (∀ y, (s.sw c).pri y = s.pri y) ∧ (s.sw c).quantum = s.quantum ∧ (s.sw c).cpus.length = s.cpus.length ∧
      (∀ y ∈ x :: a, s.below t.pri (decide (0 < q.left)) y = false) ∧ (∀ y m, b = y :: m → s.below t.pri (decide (0 < q.left)) y = true) ∧ (∀ d, d ≠ c → (s.sw c).cpus[d]? = s.cpus[d]?) ∧ ∃ j tj, x = (j : Nat) ∧ s.thr[j]? = some tj ∧ j ≠ i ∧ (s.sw c).thr = (s.thr.set i { t with st := 1 }).set j { tj with st := 2 } := by
  have h2 := (h.run c q hq).resolve_left (by omega)
  obtain ⟨i, t, hi, ht, htc, hts⟩ := S.is_thr h2.1
  have hcc : t.cpu.toNat = c := by omega
  have hq' : s.cpus[t.cpu.toNat]? = some q := by rw [hcc]; exact hq
  have hpi : s.pri i = t.pri := by simp [S.pri, ht]
  have hno : (i : Int) ∉ q.ready := fun hm => by
    have := (is_cpu ((h.rdy c q hq).1 i hm) (is_of ht)).2
    omega
  obtain ⟨x, l, g1, g2⟩ := h.sw_due hq hd
  have hidle := (h.idle hq).1
  -- the queue with the thread in it
  have e0 : q.run.toNat = i := by omega
  have hidq : s.idle q = (s.take i).put i (decide (0 < q.left)) := by rw [S.idle, if_pos (by omega), e0]
  have hout : q.out i = ⟨-1, 0, q.ready⟩ := by simp [Q.out, hi, List.erase_of_not_mem hno]
  have htk : s.take i = s.setQ c ⟨-1, 0, q.ready⟩ := by rw [S.take_eq ht hq', hout, hcc]
  have hlc : c < s.cpus.length := (List.getElem?_eq_some_iff.1 hq).1
  have ht2 : (s.setQ c ⟨-1, 0, q.ready⟩).thr[i]? = some t := ht
  have hq2 : (s.setQ c ⟨-1, 0, q.ready⟩).cpus[t.cpu.toNat]? = some ⟨-1, 0, q.ready⟩ := by rw [hcc]; exact setQ_self hlc
  have hbe : ∀ f, (s.setQ c ⟨-1, 0, q.ready⟩).below t.pri f = s.below t.pri f := fun f => rfl
  obtain ⟨a, b, hab, hins, ha, hb⟩ := ins_idxF (s.below t.pri (decide (0 < q.left))) q.ready i
  have hput : s.idle q = { s with thr := s.thr.set i { t with st := 1 }, cpus := (s.setQ c ⟨-1, 0, q.ready⟩).cpus.set c ⟨-1, 0, a ++ (i : Int) :: b⟩ } := by
    rw [hidq, htk, S.put_eq ht2 hq2, hbe, hcc]
    simp only [hins]
    rfl
  have hcl : (s.idle q).cpus[c]? = some ⟨-1, 0, a ++ (i : Int) :: b⟩ := by rw [hput]; simp [S.setQ, hlc]
  rw [g1] at hcl
  have hxl : x :: l = a ++ (i : Int) :: b := by
    have := Option.some.inj hcl
    injection this
  -- the front is not the thread
  obtain ⟨y, m, hy⟩ := S.due_ready hq hd
  have hdue := S.due_eq hq
  rw [hd, hy] at hdue
  simp only [if_neg hr] at hdue
  have hane : a ≠ [] := by
    intro e
    subst e
    rw [hy] at hab
    have h1 := hb y m (by simpa using hab.symm)
    simp [S.below] at h1
    have h3 := hdue.symm
    simp at h3
    rw [hi, hpi] at h3
    omega
  obtain ⟨x', a', rfl⟩ := List.exists_cons_of_ne_nil hane
  simp only [List.cons_append, List.cons.injEq] at hxl
  obtain ⟨rfl, rfl⟩ := hxl
  have hmem : ∀ z, z ∈ x :: a' ∨ z ∈ b → z ∈ q.ready := fun z hz => by rw [hab]; simp only [List.mem_append]; exact hz
  have hthr : (s.idle q).thr = s.thr.set i { t with st := 1 } := by rw [hput]
  have hqu : (s.idle q).quantum = s.quantum := by rw [hput]
  have hpr1 : ∀ z, (s.idle q).pri z = s.pri z := fun z => by
    have : (s.idle q).pri z = (s.modT i { t with st := 1 }).pri z := by simp only [S.pri, hthr, S.modT]
    rw [this, modSt_pri ht]
  obtain ⟨j, tj, hj, htj, _, _, hfore⟩ := hidle.fore_at g1
  have hji : j ≠ i := by
    intro e
    have : x ∈ q.ready := hmem x (by simp)
    rw [hj, e] at this
    exact hno this
  have htj' : s.thr[j]? = some tj := by
    rw [hthr, List.getElem?_set, if_neg (Ne.symm hji)] at htj
    exact htj
  refine ⟨i, t, a', b, x, hi, ht, htc, hab, ?_, ?_, ?_, ?_, ha, hb, ?_, j, tj, hj, htj', hji, ?_⟩
  · rw [g2, hfore, hqu]
    exact setQ_self (by rw [hput]; simp [S.setQ, S.modT, hlc])
  · intro z
    rw [g2, hfore, setQ_pri, modSt_pri htj, hpr1]
  · rw [g2, hfore]; exact hqu
  · rw [g2, hfore, hput]; simp [S.setQ, S.modT]
  · intro d hdc
    rw [g2, hfore, setQ_ne hdc]
    show (s.idle q).cpus[d]? = _
    rw [hput]
    simp only [S.setQ, List.getElem?_set, if_neg (Ne.symm hdc)]
  · rw [g2, hfore]
    show (s.idle q).thr.set j _ = _
    rw [hthr]
end Go.Proofs.Ytljepmbikbdicaa

set_option maxRecDepth 100000
set_option linter.unusedVariables false
set_option linter.unusedSimpArgs false
namespace Go.Proofs.Ytljepmbikbdicaa
open Go.AM
def mx1 (l : Int) : Int := if l < 1 then 1 else l
/-- How many ticks it takes until a thread runs. -/
def S.Waits (u : S) (c : Nat) (thr p bud : Int) : Prop := ∃ q, u.cpus[c]? = some q ∧ (q.run = thr ∨ ∃ a b, q.ready = a ++ thr :: b ∧ q.run ≠ -1 ∧ u.pri q.run ≤ p ∧ (∀ y ∈ a, u.pri y = p) ∧ u.pri thr = p ∧ (if u.pri q.run = p then mx1 q.left else 1) + a.length * u.quantum ≤ bud)
theorem S.tick_eq {s : S} {c : Nat} {q : Q} (hq : s.cpus[c]? = some q) : s.tick c = s.setQ c { q with left := if 0 > q.left - 1 then 0 else q.left - 1 } := by simp only [S.tick, hq]
/-- A tick, and a switch if one is due. -/
def S.beat (u : S) (c : Nat) : S := if (u.tick c).due c = true then (u.tick c).sw c else u.tick c
theorem S.Ok.waits {u : S} (h : u.Ok) {c : Nat} {thr p bud : Int} (hw : u.Waits c thr p bud) (hn : u.runOf c ≠ thr) : (u.beat c).Ok ∧ (u.beat c).cpus.length = u.cpus.length ∧ (u.beat c).quantum = u.quantum ∧ (u.beat c).Waits c thr p (bud - 1) := by
  obtain ⟨q, hq, hcase⟩ := hw
  have hro : u.runOf c = q.run := by simp only [S.runOf, hq]
  rw [hro] at hn
  obtain ⟨a, b, hab, hr, hpr, hpa, hpt, hbud⟩ := hcase.resolve_left hn
  have hlc : c < u.cpus.length := (List.getElem?_eq_some_iff.1 hq).1
  have hq1 := h.q1
  have hrun := (h.run c q hq).resolve_left (fun e => hr e.1)
  -- behind the tick
  have ht := S.tick_eq hq
  generalize hl' : (if 0 > q.left - 1 then 0 else q.left - 1) = l' at ht
  have hok := h.tick c
  have hqv : (u.tick c).cpus[c]? = some { q with left := l' } := by rw [ht]; exact setQ_self hlc
  have hprv : ∀ y, (u.tick c).pri y = u.pri y := fun y => by rw [ht]; rfl
  have hquv : (u.tick c).quantum = u.quantum := by rw [ht]; rfl
  have hclv : (u.tick c).cpus.length = u.cpus.length := by rw [ht]; simp [S.setQ]
  obtain ⟨f, m, hfm⟩ : ∃ f m, q.ready = f :: m := by cases a with
    | nil => exact ⟨thr, b, by rw [hab]; rfl⟩
    | cons f a => exact ⟨f, a ++ thr :: b, by rw [hab]; rfl⟩
  have hpf : u.pri f = p := by
    rw [hfm] at hab
    cases a with
    | nil => simp at hab; rw [hab.1]; exact hpt
    | cons g a => simp at hab; rw [hab.1]; exact hpa g (by simp)
  have hdue : (u.tick c).due c = (decide (p > u.pri q.run) || decide (l' = 0 ∧ p ≥ u.pri q.run)) := by
    rw [S.due_eq hqv]
    simp only [hfm, if_neg hr, hprv, hpf]
  unfold S.beat
  by_cases hd : (u.tick c).due c = true
  · rw [if_pos hd]
    obtain ⟨i, t, a', b', x, hi, hti, htc, hrd, hcx, hpw, hqw, hlw, hA, hB, _⟩ := hok.swap hqv hd hr
    simp only at hi hrd hA hB
    refine ⟨hok.sw c, by rw [hlw, hclv], by rw [hqw, hquv], ⟨x, (u.tick c).quantum, a' ++ (i : Int) :: b'⟩, hcx, ?_⟩
    have hpi : u.pri q.run = t.pri := by
      have : (u.tick c).pri i = t.pri := by simp [S.pri, hti]
      rw [hi, ← hprv, this]
    rw [hdue] at hd
    -- the thread is ahead of the place
    have hthr : thr ∈ x :: a' := by
      have hm : thr ∈ x :: a' ++ b' := by rw [← hrd, hab]; simp
      rcases List.mem_append.1 hm with hm | hm
      · exact hm
      · exfalso
        cases b' with
        | nil => cases hm
        | cons y m' =>
          have hby := hB y m' rfl
          simp only [S.below, Bool.or_eq_true, decide_eq_true_eq, Bool.and_eq_true, hprv] at hby hd
          have hle : u.pri thr ≤ u.pri y := by
            have hs := (h.rdy c q hq).2.2
            rw [hrd, List.pairwise_append] at hs
            rcases List.mem_cons.1 hm with rfl | hm
            · exact Int.le_refl _
            · exact (List.pairwise_cons.1 hs.2.1).1 thr hm
          omega
    cases a with
    | nil =>
      left
      rw [hab] at hrd
      simp only [List.nil_append, List.cons_append, List.cons.injEq] at hrd
      exact hrd.1.symm
    | cons z a2 =>
      right
      rw [hab] at hrd
      simp only [List.cons_append, List.cons.injEq] at hrd
      obtain ⟨rfl, hrest⟩ := hrd
      have hnd := (h.rdy c q hq).2.1
      rw [hab] at hnd
      have hzt : thr ≠ z := fun e => by
        subst e
        simp at hnd
      have hta : thr ∈ a' := (List.mem_cons.1 hthr).resolve_left hzt
      have hta2 : thr ∉ a2 := fun hm => by
        simp only [List.cons_append, List.nodup_cons, List.nodup_append, List.mem_cons] at hnd
        exact hnd.2.2.2 thr hm thr (.inl rfl) rfl
      -- a' = a2 ++ thr :: b3
      obtain ⟨b3, hb3⟩ : ∃ b3, a' = a2 ++ thr :: b3 := by
        have key : ∀ (a2 b a' b' : List Int), a2 ++ thr :: b = a' ++ b' → thr ∈ a' → thr ∉ a2 → ∃ b3, a' = a2 ++ thr :: b3 := by
          intro a2
          induction a2 with
          | nil =>
            intro b a' b' he hm _
            cases a' with
            | nil => cases hm
            | cons y a' => simp at he; exact ⟨a', by rw [he.1]; rfl⟩
          | cons y a2 ih =>
            intro b a' b' he hm hno
            cases a' with
            | nil => cases hm
            | cons w a' =>
              simp only [List.cons_append, List.cons.injEq] at he
              have hne : thr ≠ w := fun e => hno (by rw [he.1, ← e]; simp)
              obtain ⟨b3, hb3⟩ := ih b a' b' he.2 ((List.mem_cons.1 hm).resolve_left hne) (fun h => hno (by simp [h]))
              exact ⟨b3, by rw [hb3, he.1]; rfl⟩
        exact key a2 b a' b' hrest hta hta2
      refine ⟨a2, b3 ++ (i : Int) :: b', by rw [hb3]; simp, ?_, ?_, ?_, ?_, ?_⟩
      · have := (S.is_lt ((h.rdy c q hq).1 z (by rw [hab]; simp))).1
        simp only
        omega
      · rw [hpw, hprv]; exact Int.le_of_eq (hpa z (by simp))
      · intro y hy
        rw [hpw, hprv]; exact hpa y (by simp [hy])
      · rw [hpw, hprv]; exact hpt
      · have hzp : ((u.tick c).sw c).pri z = p := by rw [hpw, hprv]; exact hpa z (by simp)
        simp only [hzp, if_true, hqw, hquv]
        rw [List.length_cons, Int.natCast_add, Int.add_mul] at hbud
        have h1 : mx1 u.quantum = u.quantum := by unfold mx1; rw [if_neg (by omega)]
        have h2 : 1 ≤ (if u.pri q.run = p then mx1 q.left else 1) := by
          unfold mx1
          split <;> (try split) <;> omega
        rw [h1]
        omega
  · rw [if_neg hd]
    refine ⟨hok, hclv, hquv, _, hqv, .inr ⟨a, b, hab, hr, by rw [hprv]; exact hpr, fun y hy => by rw [hprv]; exact hpa y hy, by rw [hprv]; exact hpt, ?_⟩⟩
    rw [hdue] at hd
    simp only [Bool.or_eq_true, decide_eq_true_eq] at hd
    have hpe : u.pri q.run = p := by omega
    simp only [hprv, hquv, if_pos hpe] at hbud ⊢
    unfold mx1 at hbud ⊢
    split at hbud <;> split at hl' <;> split <;> omega
end Go.Proofs.Ytljepmbikbdicaa

set_option maxRecDepth 100000
set_option linter.unusedVariables false
set_option linter.unusedSimpArgs false
namespace Go.Proofs.Ytljepmbikbdicaa
open Go.AM
/-- Its first state: a switch, if the processor is idle. -/
theorem S.Ok.wait0 {s : S} (h : s.Ok) {c : Nat} {q : Q} (hq : s.cpus[c]? = some q) {k : Nat} {thr x0 : Int} (hk : q.ready[k]? = some thr) (h0 : q.ready[0]? = some x0) (hp : s.pri x0 = s.pri thr) (hr : q.run = -1 ∨ s.pri q.run ≤ s.pri thr) :
    (if q.run = -1 then s.sw c else s).Ok ∧ (if q.run = -1 then s.sw c else s).cpus.length = s.cpus.length ∧ (if q.run = -1 then s.sw c else s).quantum = s.quantum ∧ (if q.run = -1 then s.sw c else s).Waits c thr (s.pri thr) ((k + 1) * s.quantum) := by
  have hq1 := h.q1
  have hkl : k < q.ready.length := (List.getElem?_eq_some_iff.1 hk).1
  have hs := (h.rdy c q hq).2.2
  have hsplit : q.ready = q.ready.take k ++ thr :: q.ready.drop (k + 1) := by
    rw [← drop_at hk, List.take_append_drop]
  have hpa : ∀ y ∈ q.ready.take k, s.pri y = s.pri thr := fun y hy => by
    have h1 : s.pri thr ≤ s.pri y := by
      rw [hsplit, List.pairwise_append] at hs
      exact hs.2.2 y hy thr (by simp)
    have h2 : s.pri y ≤ s.pri x0 := by
      cases hx : q.ready with
      | nil => rw [hx] at h0; cases h0
      | cons z l =>
        rw [hx] at h0
        simp at h0
        subst h0
        exact h.top hq hx y (List.mem_of_mem_take hy)
    omega
  have e1 : ((k : Int) + 1) * s.quantum = k * s.quantum + s.quantum := by rw [Int.add_mul]; omega
  by_cases hi : q.run = -1
  · rw [if_pos hi]
    have hlc : c < s.cpus.length := (List.getElem?_eq_some_iff.1 hq).1
    cases hx : q.ready with
    | nil => rw [hx] at h0; cases h0
    | cons z l =>
      rw [hx] at h0 hk
      simp at h0
      subst h0
      have hd : s.due c = true := by rw [S.due_eq hq, hx]; simp [hi]
      obtain ⟨x, l', g1, g2⟩ := h.sw_due hq hd
      have hid : s.idle q = s := by rw [S.idle, if_neg (by omega)]
      rw [hid] at g1 g2
      rw [hq] at g1
      cases g1
      simp only [List.cons.injEq] at hx
      obtain ⟨rfl, rfl⟩ := hx
      obtain ⟨i, t, hxi, ht, htc, hts, hfore⟩ := h.fore_at hq
      have hpr : ∀ y, (s.sw c).pri y = s.pri y := fun y => by rw [g2, hfore, setQ_pri, modSt_pri ht]
      have hqu : (s.sw c).quantum = s.quantum := by rw [g2, hfore]; rfl
      have hcx : (s.sw c).cpus[c]? = some ⟨x, s.quantum, l'⟩ := by rw [g2, hfore]; exact setQ_self hlc
      refine ⟨h.sw c, by rw [g2, hfore]; simp [S.setQ, S.modT], hqu, _, hcx, ?_⟩
      cases k with
      | zero =>
        left
        simpa using hk
      | succ k =>
        right
        simp only [List.getElem?_cons_succ] at hk
        have hkl' : k < l'.length := (List.getElem?_eq_some_iff.1 hk).1
        have hx0 := (S.is_lt ((h.rdy c _ hq).1 x (by simp))).1
        refine ⟨l'.take k, l'.drop (k + 1), by rw [← drop_at hk, List.take_append_drop], by dsimp only; omega, ?_, ?_, hpr _, ?_⟩
        · dsimp only; rw [hpr]; exact Int.le_of_eq hp
        · intro y hy
          rw [hpr]
          exact hpa y (by simp [hy])
        · have hlen : (l'.take k).length = k := by simp; omega
          have e2 : ((k + 1 : Nat) : Int) * s.quantum = k * s.quantum + s.quantum := by rw [Int.natCast_add, Int.add_mul]; omega
          have hp' : s.pri x = s.pri thr := hp
          have hm : mx1 s.quantum = s.quantum := by unfold mx1; rw [if_neg (by omega)]
          rw [hlen]
          simp only [hpr, hqu, if_pos hp', hm]
          rw [e1, e2]
          have : 0 ≤ (k : Int) * s.quantum := Int.mul_nonneg (by omega) (by omega)
          omega
  · rw [if_neg hi]
    refine ⟨h, rfl, rfl, q, hq, .inr ⟨q.ready.take k, q.ready.drop (k + 1), hsplit, hi, hr.resolve_left hi, hpa, rfl, ?_⟩⟩
    have hrun := (h.run c q hq).resolve_left (fun e => hi e.1)
    have hlen : (q.ready.take k).length = k := by simp; omega
    rw [hlen, e1]
    unfold mx1
    split <;> (try split) <;> omega
theorem S.Ok.waits_end {u : S} (h : u.Ok) {c : Nat} {thr p bud : Int} (hw : u.Waits c thr p bud) (hb : bud ≤ 0) : ∃ q, u.cpus[c]? = some q ∧ q.run = thr := by
  obtain ⟨q, hq, hcase⟩ := hw
  refine ⟨q, hq, ?_⟩
  rcases hcase with h1 | ⟨a, b, _, _, _, _, _, hbud⟩
  · exact h1
  · exfalso
    have h2 : 0 ≤ (a.length : Int) * u.quantum := Int.mul_nonneg (by omega) (by have := h.q1; omega)
    unfold mx1 at hbud
    split at hbud <;> (try split at hbud) <;> omega
theorem waits_c (s : S) (n k : Int) : ACalls Try.prog 4 [s.av, iv n, iv k] [] (fun o H => o = .ret (.bool true) ∧ H = []) := by
  refine ACalls.up ?_
  refine ACalls.intro (cs := [9, 11, 21]) (n := 157) Try.func4 rfl rfl rfl (by kernel_rfl) rfl ?_
  have fin : ∀ b H, b = true → Up 0 (fun (o : Out) (H : Heap) => o = Out.ret (.bool true) ∧ H = []) (.ret (.bool b)) H := fun b H e => by subst e; exact up_bool ⟨rfl, rfl⟩
  generalize (fun (o : Out) (H : Heap) => o = Out.ret (.bool true) ∧ H = []) = post at fin ⊢
  simp only [go_sem, Nat.reduceAdd, Nat.reduceSub, Nat.reduceMul, Nat.reduceEqDiff, Nat.reduceLeDiff, Nat.reduceLT, ↓reduceIte, Int.reduceToNat, reduceCtorEq, S.av]
  refine rK_use (enters_of Try.func13 rfl (by decide)) (ACalls.pure_use (sane_c) rfl rfl) ?_
  simp only [go_sem, Nat.reduceAdd, Nat.reduceSub, Nat.reduceMul, Nat.reduceEqDiff, Nat.reduceLeDiff, Nat.reduceLT, ↓reduceIte, Int.reduceToNat, reduceCtorEq]
  refine rK_use (enters_of Try.func16 rfl (by decide)) (ACalls.pure_use (Check_c s) rfl rfl) ?_
  refine Decidable.byCases (p := s.valid = true) (fun hv => ?_) (fun hv => ?_)
  rotate_left
  · rw [if_neg hv]
    simp only [go_sem, Nat.reduceAdd, Nat.reduceSub, Nat.reduceMul, Nat.reduceEqDiff, Nat.reduceLeDiff, Nat.reduceLT, ↓reduceIte, Int.reduceToNat, reduceCtorEq, Int.cast_ofNat_Int, Int.reduceLT, Int.reduceLE, Int.reduceGT, Int.reduceGE, Int.reduceEq, Int.reduceNe, Int.reduceNeg, Int.reduceAdd, Int.reduceSub, Int.le_refl]
    exact fin _ _ rfl
  rw [if_pos hv]
  have hok := (valid_iff s).1 hv
  simp only [go_sem, Nat.reduceAdd, Nat.reduceSub, Nat.reduceMul, Nat.reduceEqDiff, Nat.reduceLeDiff, Nat.reduceLT, ↓reduceIte, Int.reduceToNat, reduceCtorEq, Int.cast_ofNat_Int, Int.reduceLT, Int.reduceLE, Int.reduceGT, Int.reduceGE, Int.reduceEq, Int.reduceNe, Int.reduceNeg, Int.reduceAdd, Int.reduceSub, Int.le_refl]
  refine gD_dec (fun hn => ?_) (fun hn => ?_) <;> simp only [go_sem, Nat.reduceAdd, Nat.reduceSub, Nat.reduceMul, Nat.reduceEqDiff, Nat.reduceLeDiff, Nat.reduceLT, ↓reduceIte, Int.reduceToNat, reduceCtorEq, Int.cast_ofNat_Int, Int.reduceLT, Int.reduceLE, Int.reduceGT, Int.reduceGE, Int.reduceEq, Int.reduceNe, Int.reduceNeg, Int.reduceAdd, Int.reduceSub, Int.le_refl, hn, List.length_map]
  · exact fin _ _ rfl
  refine gD_dec (fun hc => ?_) (fun hc => ?_) <;> simp only [go_sem, Nat.reduceAdd, Nat.reduceSub, Nat.reduceMul, Nat.reduceEqDiff, Nat.reduceLeDiff, Nat.reduceLT, ↓reduceIte, Int.reduceToNat, reduceCtorEq, Int.cast_ofNat_Int, Int.reduceLT, Int.reduceLE, Int.reduceGT, Int.reduceGE, Int.reduceEq, Int.reduceNe, Int.reduceNeg, Int.reduceAdd, Int.reduceSub, Int.le_refl, hc, List.length_map]
  · exact fin _ _ rfl
  refine gD_dec (fun hk => ?_) (fun hk => ?_) <;> simp only [go_sem, Nat.reduceAdd, Nat.reduceSub, Nat.reduceMul, Nat.reduceEqDiff, Nat.reduceLeDiff, Nat.reduceLT, ↓reduceIte, Int.reduceToNat, reduceCtorEq, Int.cast_ofNat_Int, Int.reduceLT, Int.reduceLE, Int.reduceGT, Int.reduceGE, Int.reduceEq, Int.reduceNe, Int.reduceNeg, Int.reduceAdd, Int.reduceSub, Int.le_refl, hk, List.length_map]
  · exact fin _ _ rfl
  obtain ⟨c, rfl⟩ : ∃ c : Nat, n = c := ⟨n.toNat, by omega⟩
  obtain ⟨k, rfl⟩ : ∃ j : Nat, k = j := ⟨k.toNat, by omega⟩
  have hlt : c < s.cpus.length := by omega
  have hlt2 : (c : Int) < s.cpus.length := by omega
  obtain ⟨q, hq⟩ := at_lt hlt
  simp only [go_sem, Nat.reduceAdd, Nat.reduceSub, Nat.reduceMul, Nat.reduceEqDiff, Nat.reduceLeDiff, Nat.reduceLT, ↓reduceIte, Int.reduceToNat, reduceCtorEq, Int.cast_ofNat_Int, Int.reduceLT, Int.reduceLE, Int.reduceGT, Int.reduceGE, Int.reduceEq, Int.reduceNe, Int.reduceNeg, Int.reduceAdd, Int.reduceSub, Int.le_refl, hlt2, List.length_map, List.getElem?_map, hq, hlt, Int.natCast_nonneg, true_and, Q.row]
  refine condD_dec (fun hkl => ?_) (fun hkl => ?_)
  · simp only [go_sem, Nat.reduceAdd, Nat.reduceSub, Nat.reduceMul, Nat.reduceEqDiff, Nat.reduceLeDiff, Nat.reduceLT, ↓reduceIte, Int.reduceToNat, reduceCtorEq, Int.cast_ofNat_Int, Int.reduceLT, Int.reduceLE, Int.reduceGT, Int.reduceGE, Int.reduceEq, Int.reduceNe, Int.reduceNeg, Int.reduceAdd, Int.reduceSub, Int.le_refl]
    exact fin _ _ rfl
  have hkl' : k < q.ready.length := by omega
  have hkl2 : (k : Int) < q.ready.length := by omega
  obtain ⟨thr, hthr⟩ := at_lt hkl'
  have hrng := hok.due_h hq
  have ht0 := hrng.1 thr (List.mem_of_getElem? hthr)
  have htl : thr.toNat < s.thr.length := by omega
  obtain ⟨tt, htt⟩ := at_lt htl
  have hpt : s.pri thr = tt.pri := by simp [S.pri, htt]
  simp only [go_sem, Nat.reduceAdd, Nat.reduceSub, Nat.reduceMul, Nat.reduceEqDiff, Nat.reduceLeDiff, Nat.reduceLT, ↓reduceIte, Int.reduceToNat, reduceCtorEq, Int.cast_ofNat_Int, Int.reduceLT, Int.reduceLE, Int.reduceGT, Int.reduceGE, Int.reduceEq, Int.reduceNe, Int.reduceNeg, Int.reduceAdd, Int.reduceSub, Int.le_refl, hlt2, List.length_map, List.getElem?_map, hq, hlt, Int.natCast_nonneg, true_and, Q.row, hkl2, hkl', hthr, ht0, htl, htt, T.row]
  obtain ⟨x0, l0, hx0⟩ : ∃ x l, q.ready = x :: l := List.exists_cons_of_length_pos (by omega)
  have hr0 : q.ready[0]? = some x0 := by rw [hx0]; rfl
  have hx1 := hrng.1 x0 (by rw [hx0]; simp)
  have hxl : x0.toNat < s.thr.length := by omega
  obtain ⟨tx, htx⟩ := at_lt hxl
  have hpx : s.pri x0 = tx.pri := by simp [S.pri, htx]
  have hrl : (0 : Int) < q.ready.length := by omega
  have hrl' : 0 < q.ready.length := by omega
  refine seq_cut (fun _ : Unit => ((((Ch.nil.put 1 (iv c)).put 2 (iv k)).put 3 (.ptr 0 0 0)).put 8 (.ptr 1 0 0)).put 9 (iv thr))
    (fun _ => [.rows 3 [[.view false 3 (s.cpus.map Q.row), .view false 3 (s.thr.map T.row), iv s.quantum]], .rows 3 [[iv q.run, iv q.left, .view false 1 (q.ready.map r1)]]])
    (fun _ => s.pri x0 = s.pri thr ∧ (q.run = -1 ∨ s.pri q.run ≤ s.pri thr)) (by kernel_rfl) (fun K hK => ?_) (fun _ hpr => ?_)
  · simp only [go_sem, Nat.reduceAdd, Nat.reduceSub, Nat.reduceMul, Nat.reduceEqDiff, Nat.reduceLeDiff, Nat.reduceLT, ↓reduceIte, Int.reduceToNat, reduceCtorEq, Int.cast_ofNat_Int, Int.reduceLT, Int.reduceLE, Int.reduceGT, Int.reduceGE, Int.reduceEq, Int.reduceNe, Int.reduceNeg, Int.reduceAdd, Int.reduceSub, Int.le_refl]
    refine draw [.qu 0 0, .qu 0 0, .qu 0 0, .qu 0 0, .qu 0 0, .qu 0 0, .qu 0 0, .qu 0 0, .qu 0 0, .qu 0 0, .qu 0 0, .qu 0 0, .qu 0 0, .qu 0 0, .qu 0 0, .qu 0 0, .qu 0 0, .qu 0 0, .qu 0 0, .qu 0 0, .qu 0 0, .qu 0 0, .qu 0 0, .qu 0 0, .qu 0 0, .qu 0 0, .qu 0 0] (by kernel_rfl) (by kernel_rfl) ?_
    simp only [go_sem, Nat.reduceAdd, Nat.reduceSub, Nat.reduceMul, Nat.reduceEqDiff, Nat.reduceLeDiff, Nat.reduceLT, ↓reduceIte, Int.reduceToNat, reduceCtorEq, Int.cast_ofNat_Int, Int.reduceLT, Int.reduceLE, Int.reduceGT, Int.reduceGE, Int.reduceEq, Int.reduceNe, Int.reduceNeg, Int.reduceAdd, Int.reduceSub, Int.le_refl, List.length_map, List.getElem?_map, hr0, hrl, hrl', true_and, hx1, hxl, htx, T.row]
    refine dG_dec (fun hpp => ?_) (fun hpp => ?_) <;> simp only [go_sem, Nat.reduceAdd, Nat.reduceSub, Nat.reduceMul, Nat.reduceEqDiff, Nat.reduceLeDiff, Nat.reduceLT, ↓reduceIte, Int.reduceToNat, reduceCtorEq, Int.cast_ofNat_Int, Int.reduceLT, Int.reduceLE, Int.reduceGT, Int.reduceGE, Int.reduceEq, Int.reduceNe, Int.reduceNeg, Int.reduceAdd, Int.reduceSub, Int.le_refl, hpp]
    · exact fin _ _ rfl
    · have hpp' : s.pri x0 = s.pri thr := by omega
      refine dG_dec (fun hr => ?_) (fun hr => ?_)
      · have hrr := hrng.2.resolve_left hr
        have hql : q.run.toNat < s.thr.length := by omega
        obtain ⟨tq, htq⟩ := at_lt hql
        have hpq : s.pri q.run = tq.pri := by simp [S.pri, htq]
        simp only [go_sem, Nat.reduceAdd, Nat.reduceSub, Nat.reduceMul, Nat.reduceEqDiff, Nat.reduceLeDiff, Nat.reduceLT, ↓reduceIte, Int.reduceToNat, reduceCtorEq, Int.cast_ofNat_Int, Int.reduceLT, Int.reduceLE, Int.reduceGT, Int.reduceGE, Int.reduceEq, Int.reduceNe, Int.reduceNeg, Int.reduceAdd, Int.reduceSub, Int.le_refl, hr, List.length_map, List.getElem?_map, hrr, hql, htq, T.row, true_and]
        refine condD_dec (fun hg => ?_) (fun hg => ?_) <;> simp only [go_sem, Nat.reduceAdd, Nat.reduceSub, Nat.reduceMul, Nat.reduceEqDiff, Nat.reduceLeDiff, Nat.reduceLT, ↓reduceIte, Int.reduceToNat, reduceCtorEq, Int.cast_ofNat_Int, Int.reduceLT, Int.reduceLE, Int.reduceGT, Int.reduceGE, Int.reduceEq, Int.reduceNe, Int.reduceNeg, Int.reduceAdd, Int.reduceSub, Int.le_refl, hg]
        · exact fin _ _ rfl
        · exact hK () _ _ ⟨hpp', .inr (by omega)⟩ (Wk.slots (by simp [wkS, Ch.get]))
      · simp only [go_sem, Nat.reduceAdd, Nat.reduceSub, Nat.reduceMul, Nat.reduceEqDiff, Nat.reduceLeDiff, Nat.reduceLT, ↓reduceIte, Int.reduceToNat, reduceCtorEq, Int.cast_ofNat_Int, Int.reduceLT, Int.reduceLE, Int.reduceGT, Int.reduceGE, Int.reduceEq, Int.reduceNe, Int.reduceNeg, Int.reduceAdd, Int.reduceSub, Int.le_refl, hr]
        exact hK () _ _ ⟨hpp', .inl (by omega)⟩ (Wk.slots (by simp [wkS, Ch.get]))
  obtain ⟨g1, g2, g3, g4⟩ := hok.wait0 hq hthr hr0 hpr.1 hpr.2
  simp only [go_sem, Nat.reduceAdd, Nat.reduceSub, Nat.reduceMul, Nat.reduceEqDiff, Nat.reduceLeDiff, Nat.reduceLT, ↓reduceIte, Int.reduceToNat, reduceCtorEq, Int.cast_ofNat_Int, Int.reduceLT, Int.reduceLE, Int.reduceGT, Int.reduceGE, Int.reduceEq, Int.reduceNe, Int.reduceNeg, Int.reduceAdd, Int.reduceSub, Int.le_refl]
  generalize hu0 : (if q.run = -1 then s.sw c else s) = u0 at g1 g2 g3 g4
  refine seq_cut (fun _ : Unit => (((Ch.nil.put 1 (iv c)).put 2 (iv k)).put 3 (.ptr 0 0 0)).put 9 (iv thr))
    (fun _ => [.rows 3 [[.view false 3 (u0.cpus.map Q.row), .view false 3 (u0.thr.map T.row), iv u0.quantum]], .dead])
    (fun _ => True) (by kernel_rfl) (fun K hK => ?_) (fun _ _ => ?_)
  · simp only [go_sem, Nat.reduceAdd, Nat.reduceSub, Nat.reduceMul, Nat.reduceEqDiff, Nat.reduceLeDiff, Nat.reduceLT, ↓reduceIte, Int.reduceToNat, reduceCtorEq, Int.cast_ofNat_Int, Int.reduceLT, Int.reduceLE, Int.reduceGT, Int.reduceGE, Int.reduceEq, Int.reduceNe, Int.reduceNeg, Int.reduceAdd, Int.reduceSub, Int.le_refl]
    refine condD_dec (fun hr => ?_) (fun hr => ?_)
    · rw [if_pos hr] at hu0
      obtain ⟨_, _, q', hq'⟩ := hok.high hlt
      simp only [go_sem, Nat.reduceAdd, Nat.reduceSub, Nat.reduceMul, Nat.reduceEqDiff, Nat.reduceLeDiff, Nat.reduceLT, ↓reduceIte, Int.reduceToNat, reduceCtorEq, Int.cast_ofNat_Int, Int.reduceLT, Int.reduceLE, Int.reduceGT, Int.reduceGE, Int.reduceEq, Int.reduceNe, Int.reduceNeg, Int.reduceAdd, Int.reduceSub, Int.le_refl]
      refine rK_use (enters_of Try.func14 rfl (by decide)) (ACalls.pure_use (Switch_some hv hq hq') rfl rfl) ?_
      simp only [go_sem, Nat.reduceAdd, Nat.reduceSub, Nat.reduceMul, Nat.reduceEqDiff, Nat.reduceLeDiff, Nat.reduceLT, ↓reduceIte, Int.reduceToNat, reduceCtorEq, Int.cast_ofNat_Int, Int.reduceLT, Int.reduceLE, Int.reduceGT, Int.reduceGE, Int.reduceEq, Int.reduceNe, Int.reduceNeg, Int.reduceAdd, Int.reduceSub, Int.le_refl, S.av]
      exact hK () _ _ trivial (Wk.trans (Wk.slots' (by rw [← hu0]) (by simp [wkS, Ch.get])) (Wk.dead (H := [.rows 3 [[.view false 3 (u0.cpus.map Q.row), .view false 3 (u0.thr.map T.row), iv u0.quantum]], .rows 3 [[iv q.run, iv q.left, .view false 1 (q.ready.map r1)]]]) 1))
    · rw [if_neg hr] at hu0
      subst hu0
      simp only [go_sem, Nat.reduceAdd, Nat.reduceSub, Nat.reduceMul, Nat.reduceEqDiff, Nat.reduceLeDiff, Nat.reduceLT, ↓reduceIte, Int.reduceToNat, reduceCtorEq, Int.cast_ofNat_Int, Int.reduceLT, Int.reduceLE, Int.reduceGT, Int.reduceGE, Int.reduceEq, Int.reduceNe, Int.reduceNeg, Int.reduceAdd, Int.reduceSub, Int.le_refl]
      exact hK () _ _ trivial ((Wk.slots (by simp [wkS, Ch.get])).trans (Wk.dead 1))
  generalize hM : ((k : Int) + 1) * s.quantum = M at g4
  have hkq : q.ready.length ≤ 1000 := hok.fit.r q (List.mem_of_getElem? hq)
  have hMb : 0 ≤ M ∧ M ≤ 1001 * 20 := by
    have h1 := hok.q1
    have h2 := hok.q20
    rw [← hM]
    exact ⟨Int.mul_nonneg (by omega) (by omega), Int.le_trans (Int.mul_le_mul_of_nonneg_right (show (k : Int) + 1 ≤ 1001 by omega) (by omega)) (Int.mul_le_mul_of_nonneg_left h2 (by decide))⟩
  simp only [go_sem, Nat.reduceAdd, Nat.reduceSub, Nat.reduceMul, Nat.reduceEqDiff, Nat.reduceLeDiff, Nat.reduceLT, ↓reduceIte, Int.reduceToNat, reduceCtorEq, Int.cast_ofNat_Int, Int.reduceLT, Int.reduceLE, Int.reduceGT, Int.reduceGE, Int.reduceEq, Int.reduceNe, Int.reduceNeg, Int.reduceAdd, Int.reduceSub, Int.le_refl]
  refine loop_fam (fun x : Nat × S => ((((Ch.nil.put 1 (iv c)).put 2 (iv k)).put 3 (.ptr 0 0 0)).put 9 (iv thr)).put 11 (iv x.1)) (fun x => [.rows 3 [[.view false 3 (x.2.cpus.map Q.row), .view false 3 (x.2.thr.map T.row), iv x.2.quantum]], .dead])
    (fun x => M.toNat - x.1) (fun x => (x.1 : Int) ≤ M ∧ x.2.Ok ∧ x.2.cpus.length = s.cpus.length ∧ x.2.quantum = s.quantum ∧ x.2.Waits c thr (s.pri thr) (M - x.1)) (0, u0) (by kernel_rfl) ⟨by dsimp only; omega, g1, g2, g3, by simpa using g4⟩ (Wk.slots' rfl (by simp [wkS, Ch.get])) ?_
  rintro ⟨i, u⟩ ⟨hiM, hu1, hu2, hu3, hu4⟩ K hK
  simp only at hiM hu1 hu2 hu3 hu4
  have e1 : iw .i64 ((k : Int) + 1) = (k : Int) + 1 := by rw [iw64] <;> omega
  have e2 : iw .i64 M = M := by rw [iw64] <;> omega
  have e3 : iw .i64 ((i : Int) + 1) = ((i + 1 : Nat) : Int) := by rw [iw64] <;> omega
  have hul : c < u.cpus.length := by omega
  have hul2 : (c : Int) < u.cpus.length := by omega
  obtain ⟨qu, hqu⟩ := at_lt hul
  have hM2 : ((k : Int) + 1) * u.quantum = M := by rw [hu3]; exact hM
  simp only [go_sem, Nat.reduceAdd, Nat.reduceSub, Nat.reduceMul, Nat.reduceEqDiff, Nat.reduceLeDiff, Nat.reduceLT, ↓reduceIte, Int.reduceToNat, reduceCtorEq, Int.cast_ofNat_Int, Int.reduceLT, Int.reduceLE, Int.reduceGT, Int.reduceGE, Int.reduceEq, Int.reduceNe, Int.reduceNeg, Int.reduceAdd, Int.reduceSub, Int.le_refl, e1, hM2, e2]
  refine condD_dec (fun hg => ?_) (fun hg => ?_)
  · simp only [go_sem, Nat.reduceAdd, Nat.reduceSub, Nat.reduceMul, Nat.reduceEqDiff, Nat.reduceLeDiff, Nat.reduceLT, ↓reduceIte, Int.reduceToNat, reduceCtorEq, Int.cast_ofNat_Int, Int.reduceLT, Int.reduceLE, Int.reduceGT, Int.reduceGE, Int.reduceEq, Int.reduceNe, Int.reduceNeg, Int.reduceAdd, Int.reduceSub, Int.le_refl, List.length_map, List.getElem?_map, hqu, hul, hul2, Int.natCast_nonneg, true_and, Q.row]
    refine condD_dec (fun he => ?_) (fun he => ?_)
    · simp only [go_sem, Nat.reduceAdd, Nat.reduceSub, Nat.reduceMul, Nat.reduceEqDiff, Nat.reduceLeDiff, Nat.reduceLT, ↓reduceIte, Int.reduceToNat, reduceCtorEq, Int.cast_ofNat_Int, Int.reduceLT, Int.reduceLE, Int.reduceGT, Int.reduceGE, Int.reduceEq, Int.reduceNe, Int.reduceNeg, Int.reduceAdd, Int.reduceSub, Int.le_refl]
      exact fin _ _ rfl
    obtain ⟨w1, w2, w3, w4⟩ := hu1.waits hu4 (by simp only [S.runOf, hqu]; exact he)
    have hvu := (valid_iff u).2 hu1
    have htk := hu1.tick c
    have hqt := S.tick_eq hqu
    have hlt' : c < (u.tick c).cpus.length := by rw [hqt]; simp [S.setQ]; omega
    simp only [go_sem, Nat.reduceAdd, Nat.reduceSub, Nat.reduceMul, Nat.reduceEqDiff, Nat.reduceLeDiff, Nat.reduceLT, ↓reduceIte, Int.reduceToNat, reduceCtorEq, Int.cast_ofNat_Int, Int.reduceLT, Int.reduceLE, Int.reduceGT, Int.reduceGE, Int.reduceEq, Int.reduceNe, Int.reduceNeg, Int.reduceAdd, Int.reduceSub, Int.le_refl]
    refine rK_use (enters_of Try.func17 rfl (by decide)) (ACalls.pure_use (Tick_some hvu hqu) rfl rfl) ?_
    simp only [go_sem, Nat.reduceAdd, Nat.reduceSub, Nat.reduceMul, Nat.reduceEqDiff, Nat.reduceLeDiff, Nat.reduceLT, ↓reduceIte, Int.reduceToNat, reduceCtorEq, Int.cast_ofNat_Int, Int.reduceLT, Int.reduceLE, Int.reduceGT, Int.reduceGE, Int.reduceEq, Int.reduceNe, Int.reduceNeg, Int.reduceAdd, Int.reduceSub, Int.le_refl, S.av]
    generalize hb : u.beat c = v at w1 w2 w3 w4
    refine seq_cut (fun _ : Unit => ((((((Ch.nil.put 1 (iv c)).put 2 (iv k)).put 3 (.ptr 0 0 0)).put 9 (iv thr)).put 11 (iv i)).put 12 (.ptr 2 0 0)).put 14 (iv 0)) (fun _ => [.rows 3 [[.view false 3 (u.cpus.map Q.row), .view false 3 (u.thr.map T.row), iv u.quantum]], .dead, .rows 3 [[.view false 3 (v.cpus.map Q.row), .view false 3 (v.thr.map T.row), iv v.quantum]]])
      (fun _ => True) (by kernel_rfl) (fun K3 hK3 => ?_) (fun _ _ => ?_)
    · simp only [go_sem, Nat.reduceAdd, Nat.reduceSub, Nat.reduceMul, Nat.reduceEqDiff, Nat.reduceLeDiff, Nat.reduceLT, ↓reduceIte, Int.reduceToNat, reduceCtorEq, Int.cast_ofNat_Int, Int.reduceLT, Int.reduceLE, Int.reduceGT, Int.reduceGE, Int.reduceEq, Int.reduceNe, Int.reduceNeg, Int.reduceAdd, Int.reduceSub, Int.le_refl]
      unfold S.beat at hb
      refine condD_split (fun hd => ?_) (fun hd => ?_)
      · rw [if_pos hd] at hb
        obtain ⟨q2, hq2⟩ := at_lt hlt'
        obtain ⟨_, _, q3, hq3⟩ := htk.high hlt'
        simp only [go_sem, Nat.reduceAdd, Nat.reduceSub, Nat.reduceMul, Nat.reduceEqDiff, Nat.reduceLeDiff, Nat.reduceLT, ↓reduceIte, Int.reduceToNat, reduceCtorEq, Int.cast_ofNat_Int, Int.reduceLT, Int.reduceLE, Int.reduceGT, Int.reduceGE, Int.reduceEq, Int.reduceNe, Int.reduceNeg, Int.reduceAdd, Int.reduceSub, Int.le_refl]
        refine rK_use (enters_of Try.func14 rfl (by decide)) (ACalls.pure_use (Switch_some ((valid_iff _).2 htk) hq2 hq3) rfl rfl) ?_
        simp only [go_sem, Nat.reduceAdd, Nat.reduceSub, Nat.reduceMul, Nat.reduceEqDiff, Nat.reduceLeDiff, Nat.reduceLT, ↓reduceIte, Int.reduceToNat, reduceCtorEq, Int.cast_ofNat_Int, Int.reduceLT, Int.reduceLE, Int.reduceGT, Int.reduceGE, Int.reduceEq, Int.reduceNe, Int.reduceNeg, Int.reduceAdd, Int.reduceSub, Int.le_refl, S.av]
        exact hK3 () _ _ trivial (Wk.slots' (by rw [← hb]) (by simp [wkS, Ch.get]))
      · rw [if_neg (by simp [hd])] at hb
        subst hb
        simp only [go_sem, Nat.reduceAdd, Nat.reduceSub, Nat.reduceMul, Nat.reduceEqDiff, Nat.reduceLeDiff, Nat.reduceLT, ↓reduceIte, Int.reduceToNat, reduceCtorEq, Int.cast_ofNat_Int, Int.reduceLT, Int.reduceLE, Int.reduceGT, Int.reduceGE, Int.reduceEq, Int.reduceNe, Int.reduceNeg, Int.reduceAdd, Int.reduceSub, Int.le_refl]
        exact hK3 () _ _ trivial (Wk.slots (by simp [wkS, Ch.get]))
    · simp only [go_sem, Nat.reduceAdd, Nat.reduceSub, Nat.reduceMul, Nat.reduceEqDiff, Nat.reduceLeDiff, Nat.reduceLT, ↓reduceIte, Int.reduceToNat, reduceCtorEq, Int.cast_ofNat_Int, Int.reduceLT, Int.reduceLE, Int.reduceGT, Int.reduceGE, Int.reduceEq, Int.reduceNe, Int.reduceNeg, Int.reduceAdd, Int.reduceSub, Int.le_refl, List.length_map, w2, e3]
      refine hK (i + 1, v) _ _ ⟨by dsimp only; omega, w1, by dsimp only; omega, by dsimp only; omega, ?_⟩ (by dsimp only; omega) (Wk.drop (m := 2) (by simp [wkS, Ch.get]) (by decide) (by simp) (by simp [chLt, AV.lt]) rfl (by simp [Blk.lt, ltL, AV.lt]))
      have e4 : M - ((i + 1 : Nat) : Int) = M - i - 1 := by omega
      dsimp only
      rw [e4]
      exact w4
  · have hend := hu1.waits_end hu4 (by omega)
    obtain ⟨q2, hq2, hrun⟩ := hend
    simp only [go_sem, Nat.reduceAdd, Nat.reduceSub, Nat.reduceMul, Nat.reduceEqDiff, Nat.reduceLeDiff, Nat.reduceLT, ↓reduceIte, Int.reduceToNat, reduceCtorEq, Int.cast_ofNat_Int, Int.reduceLT, Int.reduceLE, Int.reduceGT, Int.reduceGE, Int.reduceEq, Int.reduceNe, Int.reduceNeg, Int.reduceAdd, Int.reduceSub, Int.le_refl, List.length_map, List.getElem?_map, hq2, hul, hul2, Int.natCast_nonneg, true_and, Q.row, hrun]
    exact fin _ _ rfl
end Go.Proofs.Ytljepmbikbdicaa

set_option maxRecDepth 100000
set_option linter.unusedVariables false
set_option linter.unusedSimpArgs false
namespace Go.Proofs.Ytljepmbikbdicaa.schedWaits
open Go.AM
open Go.ChangeShapes Go.WideShapes Go.ChangeAt Go.RowKit
theorem own : ownKnob Try.prog.godebug = none := by kernel_rfl
theorem lifted (os : Os) (started : os.Started) (H : Type) (enc : TypeId × Value → H) :
    ReturnsInHanded {} Try.checked os 4 .any (Rows.schedWaitsSpec.pre6 enc Try.prog Try.f4 Rows.schedWaitsRow.domain false) (Rows.schedWaitsSpec.post enc Try.prog Try.f4 false true false false) := by
  refine returnsInHanded_of_change (C := Try.checked) own started (by kernel_rfl) Try.func4
    (ChangeSpec.witness6 (enc := enc) (C := Try.checked) false ⟨#[], #[.agg #[.slice none 0 0, .slice none 0 0, .int .i64 0], .int .i64 0, .int .i64 0], []⟩ 8 (by kernel_rfl) (by kernel_rfl) (by kernel_rfl) (by kernel_rfl)) ?_
  intro W base args ds gs before hval0 hW hcnd _
  have hval : ∀ (j : Nat) t v, Try.f4.params[j]? = some t → args[j]? = some v → Value.okWide Try.prog W .any base t v := hval0
  have hW' := hW
  obtain ⟨p, q, hA0, hV, rfl, hfz, hnd⟩ := hW'
  have hA : DataW.TrodAll enc Try.prog W 0 (fun _ => true) true Try.f4.params.toList args.toList ds p := hA0
  rw [Try.params4] at hA hval
  obtain ⟨v0, vs0, d0, ds0, p0, q0, hargs, rfl, rfl, h0, r0⟩ := trodAll_cons hA
  obtain ⟨v1, vs1, d1, ds1, p1, q1, rfl, rfl, rfl, h1, r1⟩ := trodAll_cons r0
  obtain ⟨v2, vs2, d2, ds2, p2, q2, rfl, rfl, rfl, h2, r2⟩ := trodAll_cons r1
  obtain ⟨rfl, rfl, rfl⟩ := trodAll_nil r2
  obtain rfl : args = #[v0, v1, v2] := by cases args; simp_all
  obtain ⟨a0, g0⟩ := read_sched (hval 0 _ v0 rfl rfl) h0
  obtain ⟨a1, g1, w1⟩ := read_int (hval 1 _ v1 rfl rfl) h1
  obtain ⟨a2, g2, w2⟩ := read_int (hval 2 _ v2 rfl rfl) h2
  refine law_contract (waits_c a0 a1 a2) hW rfl rfl Try.underlying4 rfl lout ?_ (vrs_cons g0 (vrs_cons g1 (vrs_cons g2 vrs_nil)))
  intro t ht
  rw [Try.params4] at ht
  simp only [List.mem_cons, List.not_mem_nil, or_false] at ht
  rcases ht with rfl | rfl | rfl
  · exact rd_sched
  · exact rd_int
  · exact rd_int
theorem over : Rows.schedWaitsRow.holds Try.pinned (OpenSpec.ofChange Rows.schedWaitsSpec) :=
  OpenClaim.holds_of_wide 4 Try.f4 rfl rfl rfl rfl rfl rfl rfl ⟨rfl, rfl, rfl, rfl, rfl⟩ rfl rfl rfl rfl rfl (by kernel_rfl) Try.func4 (by kernel_rfl)
    (of_decide_eq_true (by kernel_rfl)) (by unfold Func.isWrapper; first | (rw [if_pos (by decide +kernel)]; kernel_rfl) | (rw [if_neg (by decide +kernel)]; exact ⟨rfl, rfl⟩))
    (fun os started H enc _ => lifted os started H enc)
end Go.Proofs.Ytljepmbikbdicaa.schedWaits
namespace Go.Proofs.Ytljepmbikbdicaa
theorem SchedWaits_holds : Rows.SchedWaitsSaid := schedWaits.over
end Go.Proofs.Ytljepmbikbdicaa
