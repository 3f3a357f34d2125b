/- Sched: how many threads a processor has. No condition. -/
import Derived.Test.YtljepmbikbdicaaSD
import Derived.Test.YtljepmbikbdicaaSF
set_option maxRecDepth 100000
set_option linter.unusedVariables false
set_option linter.unusedSimpArgs false
namespace Go.Proofs.Ytljepmbikbdicaa
open Go.AM
theorem loadOf_at {s : S} {c : Nat} {q : Q} (hq : s.cpus[c]? = some q) : s.loadOf c = q.load := by simp only [S.loadOf, hq]
theorem loadOf_congr {s t : S} {c : Nat} (h : t.cpus[c]? = s.cpus[c]?) : t.loadOf c = s.loadOf c := by simp only [S.loadOf, h]
theorem load_cases (q : Q) : (0 ≤ q.run ∧ q.load = q.ready.length + 1) ∨ (q.run < 0 ∧ q.load = q.ready.length) := by
  unfold Q.load
  by_cases h : 0 ≤ q.run
  · rw [if_pos h]; exact .inl ⟨h, rfl⟩
  · rw [if_neg h]; exact .inr ⟨by omega, by omega⟩
/-- A switch leaves the loads. -/
theorem S.Ok.sw_load {s : S} (h : s.Ok) {c : Nat} {q : Q} (hq : s.cpus[c]? = some q) : ∃ q', (s.sw c).cpus[c]? = some q' ∧ q'.load = q.load ∧ (q'.run = -1 → q'.ready = []) ∧ (∀ d : Nat, d ≠ c → (s.sw c).cpus[d]? = s.cpus[d]?) ∧ (s.sw c).cpus.length = s.cpus.length := by
  have hlc := (List.getElem?_eq_some_iff.1 hq).1
  by_cases hd : s.due c = true
  · by_cases hr : q.run = -1
    · obtain ⟨x, l, g1, g2⟩ := h.sw_due hq hd
      have hid : s.idle q = s := by rw [S.idle, if_neg (by omega)]
      rw [hid] at g1 g2
      obtain ⟨i, t, rfl, ht, htc, hts, h4⟩ := h.fore_at g1
      rw [hq] at g1
      cases g1
      rw [g2, h4]
      refine ⟨_, setQ_self hlc, ?_, fun e => by dsimp only at e; omega, fun d hdc => setQ_ne hdc, by simp [S.setQ, S.modT]⟩
      have a := load_cases ⟨i, s.quantum, l⟩
      have b := load_cases ⟨-1, 0, (i : Int) :: l⟩
      simp only [List.length_cons] at a b
      omega
    · obtain ⟨i, t, a, b, x, hi, ht, htc, hrd, hcx, _, _, hlen, _, _, hne, j, tj, rfl, _⟩ := h.swap hq hd hr
      refine ⟨_, hcx, ?_, fun e => by dsimp only at e; omega, hne, hlen⟩
      have a1 := load_cases ⟨j, s.quantum, a ++ (i : Int) :: b⟩
      have b1 := load_cases q
      rw [hrd] at b1
      simp only [List.length_cons, List.length_append, List.cons_append] at a1 b1
      omega
  · have hd' : s.due c = false := by simpa using hd
    have hcalm := (h.calm hq hd').1
    have hsw : s.sw c = if 0 ≤ q.run ∧ q.left = 0 then s.setQ c { q with left := s.quantum } else s := by simp only [S.sw, hq, if_neg hd]
    rw [hsw]
    split
    · exact ⟨_, setQ_self hlc, rfl, hcalm, fun d hdc => setQ_ne hdc, by simp [S.setQ]⟩
    · exact ⟨q, hq, rfl, hcalm, fun _ _ => rfl, rfl⟩
theorem fullF_max (s : S) : ∀ (l : List Q) (i b : Nat), s.cpus.drop i = l → (∀ d, d < i → s.loadOf d ≤ s.loadOf b) → ∀ d, d < s.cpus.length → s.loadOf d ≤ s.loadOf (fullF l i b (s.loadOf b))
  | [], i, b, hl, hb, d, hd => by
    simp only [fullF]
    refine hb d ?_
    have := congrArg List.length hl
    simp at this
    omega
  | q :: l, i, b, hl, hb, d, hd => by
    have hq : s.cpus[i]? = some q := by
      have : (s.cpus.drop i)[0]? = some q := by rw [hl]; rfl
      simpa using this
    have hl' : s.cpus.drop (i + 1) = l := by
      rw [← List.drop_drop, hl]; rfl
    have he := loadOf_at hq
    simp only [fullF]
    split
    · rename_i hg
      rw [← he]
      exact fullF_max s l (i + 1) i hl' (fun e h => by
        rcases Nat.lt_or_ge e i with h1 | h1
        · have := hb e h1; omega
        · obtain rfl : e = i := by omega
          exact Int.le_refl _) d hd
    · rename_i hg
      exact fullF_max s l (i + 1) b hl' (fun e h => by
        rcases Nat.lt_or_ge e i with h1 | h1
        · exact hb e h1
        · obtain rfl : e = i := by omega
          omega) d hd
theorem S.full_max (s : S) {d : Nat} (hd : d < s.cpus.length) : s.loadOf d ≤ s.loadOf s.full := fullF_max s s.cpus 0 0 rfl (fun e h => absurd h (Nat.not_lt_zero _)) d hd
/-- What stealing does to the loads. -/
theorem S.Ok.steal_load {s : S} (h : s.Ok) {c : Nat} (hc : c < s.cpus.length) : ((0 < s.loadOf c ∨ s.loadOf s.full < 2) ∧ s.steal c = s) ∨
    (s.loadOf c ≤ 0 ∧ 2 ≤ s.loadOf s.full ∧ s.full < s.cpus.length ∧ (s.steal c).cpus.length = s.cpus.length ∧ 0 < (s.steal c).loadOf c ∧ 0 < (s.steal c).loadOf s.full ∧ ∀ d : Nat, d ≠ c → d ≠ s.full → (s.steal c).loadOf d = s.loadOf d) := by
  by_cases hl : s.loadOf c > 0 ∨ s.loadOf s.full < 2
  · exact .inl ⟨hl, by rw [S.steal, if_pos hl]⟩
  · right
    have hst : s.steal c = ((s.take (s.frontOf s.full).toNat).setCpu (s.frontOf s.full).toNat c).put (s.frontOf s.full).toNat false := by rw [S.steal, if_neg hl]
    have hf : s.full < s.cpus.length := fullF_lt _ _ _ _ _ (by have := h.c1; omega) (by omega)
    obtain ⟨q, hq⟩ := at_lt hf
    have hlo := loadOf_at hq
    have hlc := load_cases q
    obtain ⟨x, l, hx⟩ : ∃ x l, q.ready = x :: l := List.exists_cons_of_length_pos (by omega)
    have hfr : s.frontOf s.full = x := by simp only [S.frontOf, hq, hx]
    obtain ⟨i, t, rfl, ht, htc, hts⟩ := S.is_thr ((h.rdy _ q hq).1 x (by simp [hx]))
    have hne : s.full ≠ c := fun e => by rw [e] at hl; omega
    have hrun : q.run ≠ i := fun e => by
      have h2 := (h.run _ q hq).resolve_left (by omega)
      have := (is_cpu h2.1 (e ▸ is_of ht)).2
      omega
    have hcc : t.cpu.toNat = s.full := by omega
    have htk : s.take i = s.setQ s.full ⟨q.run, q.left, l⟩ := by
      rw [S.take_eq ht (by rw [hcc]; exact hq), hcc]
      simp [Q.out, hrun, hx]
    rw [hfr, Int.toNat_natCast, htk] at hst
    have ht2 : (s.setQ s.full ⟨q.run, q.left, l⟩).thr[i]? = some t := ht
    rw [S.setCpu_eq ht2] at hst
    obtain ⟨q2, hq2⟩ := at_lt hc
    have hti : i < s.thr.length := (List.getElem?_eq_some_iff.1 ht).1
    generalize hu : ({ s.setQ s.full ⟨q.run, q.left, l⟩ with thr := (s.setQ s.full ⟨q.run, q.left, l⟩).thr.set i { t with cpu := c } } : S) = u at hst
    have hucp : ∀ d : Nat, u.cpus[d]? = (s.setQ s.full ⟨q.run, q.left, l⟩).cpus[d]? := fun d => by rw [← hu]
    have hut : u.thr[i]? = some { t with cpu := c } := by rw [← hu]; simp [S.setQ, hti]
    have huq : u.cpus[(c : Int).toNat]? = some q2 := by rw [Int.toNat_natCast, hucp, setQ_ne (by omega)]; exact hq2
    rw [S.put_eq hut huq] at hst
    have hul : u.cpus.length = s.cpus.length := by rw [← hu]; simp [S.setQ]
    have hcp : ∀ d : Nat, (s.steal c).cpus[d]? = if d = c then some { q2 with ready := ins q2.ready (idxF (u.below t.pri false) q2.ready 0) i } else u.cpus[d]? := by
      intro d
      rw [hst]
      simp only [Int.toNat_natCast]
      rw [List.getElem?_set]
      by_cases hd : d = c
      · subst hd; simp [hul, hc]
      · simp [hd, show c ≠ d from fun e => hd e.symm]
    refine ⟨by omega, by omega, hf, by rw [hst]; simp [hul], ?_, ?_, ?_⟩
    · have h3 := hcp c
      rw [if_pos rfl] at h3
      rw [loadOf_at h3]
      have h4 := load_cases { q2 with ready := ins q2.ready (idxF (u.below t.pri false) q2.ready 0) i }
      have h5 : 0 < (ins q2.ready (idxF (u.below t.pri false) q2.ready 0) i).length := by
        unfold ins
        split <;> simp <;> omega
      simp only at h4
      omega
    · have h3 := hcp s.full
      rw [if_neg hne, hucp, setQ_self hf] at h3
      rw [loadOf_at h3]
      have h4 := load_cases ⟨q.run, q.left, l⟩
      rw [hx] at hlc
      simp only [List.length_cons] at h4 hlc
      omega
    · intro d h1 h2
      refine loadOf_congr ?_
      rw [hcp, if_neg h1, hucp, setQ_ne h2]
theorem load_nn (s : S) (c : Nat) : 0 ≤ s.loadOf c := by
  unfold S.loadOf
  split
  · rename_i q _
    have := load_cases q
    omega
  · decide
/-- Behind the first steals. -/
def S.Fed (s : S) (i : Nat) : Prop := ∀ c, c < i → s.loadOf c = 0 → ∀ d, d < s.cpus.length → s.loadOf d < 2
theorem S.Ok.fed {s : S} (h : s.Ok) {i : Nat} (hi : i < s.cpus.length) (hf : s.Fed i) : (s.steal i).Fed (i + 1) := by
  rcases h.steal_load hi with ⟨h1, h2⟩ | ⟨h1, h2, h3, h4, h5, h6, h7⟩
  · rw [h2]
    intro c hc h0 d hd
    by_cases e : c = i
    · subst e
      have := s.full_max hd
      omega
    · exact hf c (by omega) h0 d hd
  · intro c hc h0 d hd
    exfalso
    have e1 : c ≠ i := fun e => by subst e; omega
    have e2 : c ≠ s.full := fun e => by subst e; omega
    rw [h7 c e1 e2] at h0
    have := hf c (by omega) h0 _ h3
    omega
/-- Behind the first switches. -/
def S.Set (s : S) (i : Nat) : Prop := s.Fed s.cpus.length ∧ ∀ (c : Nat) q, c < i → s.cpus[c]? = some q → q.run = -1 → q.ready = []
theorem S.Ok.set {s : S} (h : s.Ok) {i : Nat} (hi : i < s.cpus.length) (hf : s.Set i) : (s.sw i).Set (i + 1) := by
  obtain ⟨q, hq⟩ := at_lt hi
  obtain ⟨q', g1, g2, g3, g4, g5⟩ := h.sw_load hq
  have hl : ∀ d : Nat, (s.sw i).loadOf d = s.loadOf d := fun d => by
    by_cases e : d = i
    · subst e; rw [loadOf_at g1, loadOf_at hq, g2]
    · exact loadOf_congr (g4 d e)
  refine ⟨fun c hc h0 d hd => ?_, fun c q2 hc hq2 hr => ?_⟩
  · rw [hl] at h0 ⊢
    rw [g5] at hc hd
    exact hf.1 c hc h0 d hd
  · by_cases e : c = i
    · subst e
      rw [g1] at hq2
      cases hq2
      exact g3 hr
    · rw [g4 c e] at hq2
      exact hf.2 c q2 (by omega) hq2 hr
theorem S.Set.ends {s : S} (h : s.Set s.cpus.length) {c d : Nat} {q r : Q} (hq : s.cpus[c]? = some q) (hr : s.cpus[d]? = some r) (hi : q.run = -1) (hm : 0 < r.ready.length) (hrun : r.run = -1 ∨ 0 ≤ r.run) : False := by
  have hlc := (List.getElem?_eq_some_iff.1 hq).1
  have hld := (List.getElem?_eq_some_iff.1 hr).1
  have he := h.2 c q hlc hq hi
  have h0 : s.loadOf c = 0 := by
    rw [loadOf_at hq]
    have := load_cases q
    rw [he] at this
    simp at this
    omega
  have h1 := h.1 c hlc h0 d hld
  rw [loadOf_at hr] at h1
  have := load_cases r
  rcases hrun with e | e
  · have := h.2 d r hld hr e
    rw [this] at hm
    simp at hm
  · omega
end Go.Proofs.Ytljepmbikbdicaa

set_option maxRecDepth 100000
set_option linter.unusedVariables false
set_option linter.unusedSimpArgs false
namespace Go.Proofs.Ytljepmbikbdicaa
open Go.AM
theorem done8 {s : S} (h : s.Ok) {c : Nat} (hc : c < s.cpus.length) (p : Int) : s.done 8 c p = s.steal c := by
  obtain ⟨q, hq⟩ := at_lt hc
  have : s.cp c = some q := by simp [S.cp, hq]
  simp [S.done, S.op, (valid_iff s).2 h, this]
theorem done5 {s : S} (h : s.Ok) {c : Nat} (hc : c < s.cpus.length) (p : Int) : s.done 5 c p = s.sw c := by
  obtain ⟨q, hq⟩ := at_lt hc
  have : s.cp c = some q := by simp [S.cp, hq]
  simp [S.done, S.op, (valid_iff s).2 h, this]
/-- The state in a phase: 0 steals, 1 switches, 2 the end. -/
def S.At (s : S) (m i : Nat) : Prop := s.Ok ∧ match m with
  | 0 => s.Fed i
  | 1 => s.Set i
  | _ => s.Set s.cpus.length
def kind (m : Nat) : Int := 8 - 3 * m
theorem S.At.next {s : S} {m i : Nat} (h : s.At m i) (hm : m < 2) (hi : i < s.cpus.length) : (s.done (kind m) i 0).At m (i + 1) ∧ (s.done (kind m) i 0).cpus.length = s.cpus.length := by
  have hk := (h.1.keeps (kind m) i 0)
  refine ⟨⟨hk.ok, ?_⟩, hk.cl⟩
  obtain rfl | rfl : m = 0 ∨ m = 1 := by omega
  · have := h.1.fed hi h.2
    rw [← done8 h.1 hi 0] at this
    exact this
  · have := h.1.set hi h.2
    rw [← done5 h.1 hi 0] at this
    exact this
theorem S.At.turn {s : S} {m : Nat} (h : s.At m s.cpus.length) (hm : m < 2) : s.At (m + 1) 0 := by
  obtain rfl | rfl : m = 0 ∨ m = 1 := by omega
  · exact ⟨h.1, h.2, fun c q hc => absurd hc (Nat.not_lt_zero _)⟩
  · exact h
theorem works_c (s : S) : ACalls Try.prog 11 [s.av] [] (fun o H => o = .ret (.bool true) ∧ H = []) := by
  refine ACalls.up ?_
  refine ACalls.intro (cs := []) (n := 77) Try.func11 rfl rfl rfl (by kernel_rfl) rfl ?_
  have fin : ∀ b H, b = true → Up 0 (fun (o : Out) (H : Heap) => o = Out.ret (.bool true) ∧ H = []) (.ret (.bool b)) H := fun b H e => by subst e; exact up_bool ⟨rfl, rfl⟩
  generalize (fun (o : Out) (H : Heap) => o = Out.ret (.bool true) ∧ H = []) = post at fin ⊢
  simp only [go_sem, Nat.reduceAdd, Nat.reduceSub, Nat.reduceMul, Nat.reduceEqDiff, Nat.reduceLeDiff, Nat.reduceLT, ↓reduceIte, Int.reduceToNat, reduceCtorEq, S.av]
  refine rK_use (enters_of Try.func13 rfl (by decide)) (ACalls.pure_use (sane_c) rfl rfl) ?_
  simp only [go_sem, Nat.reduceAdd, Nat.reduceSub, Nat.reduceMul, Nat.reduceEqDiff, Nat.reduceLeDiff, Nat.reduceLT, ↓reduceIte, Int.reduceToNat, reduceCtorEq]
  refine rK_use (enters_of Try.func16 rfl (by decide)) (ACalls.pure_use (Check_c s) rfl rfl) ?_
  refine Decidable.byCases (p := s.valid = true) (fun hv => ?_) (fun hv => ?_)
  rotate_left
  · rw [if_neg hv]
    simp only [go_sem, Nat.reduceAdd, Nat.reduceSub, Nat.reduceMul, Nat.reduceEqDiff, Nat.reduceLeDiff, Nat.reduceLT, ↓reduceIte, Int.reduceToNat, reduceCtorEq, Int.cast_ofNat_Int, Int.reduceLT, Int.reduceLE, Int.reduceGT, Int.reduceGE, Int.reduceEq, Int.reduceNe, Int.reduceNeg, Int.reduceAdd, Int.reduceSub, Int.le_refl]
    exact fin _ _ rfl
  rw [if_pos hv]
  have hok := (valid_iff s).1 hv
  simp only [go_sem, Nat.reduceAdd, Nat.reduceSub, Nat.reduceMul, Nat.reduceEqDiff, Nat.reduceLeDiff, Nat.reduceLT, ↓reduceIte, Int.reduceToNat, reduceCtorEq, Int.cast_ofNat_Int, Int.reduceLT, Int.reduceLE, Int.reduceGT, Int.reduceGE, Int.reduceEq, Int.reduceNe, Int.reduceNeg, Int.reduceAdd, Int.reduceSub, Int.le_refl]
  refine loop_fam (fun x : Nat × S => (Ch.nil.put 1 (.ptr 0 0 0)).put 4 (iv (kind x.1))) (fun x => [.rows 3 [[.view false 3 (x.2.cpus.map Q.row), .view false 3 (x.2.thr.map T.row), iv x.2.quantum]]])
    (fun x => 2 - x.1) (fun x => x.1 ≤ 2 ∧ x.2.At x.1 0) (0, s) (by kernel_rfl) ⟨Nat.zero_le _, hok, fun c hc => absurd hc (Nat.not_lt_zero _)⟩ (Wk.slots' rfl (by simp [wkS, Ch.get, kind])) ?_
  rintro ⟨m, u⟩ ⟨hm, hu⟩ K hK
  simp only at hm hu
  simp only [go_sem, Nat.reduceAdd, Nat.reduceSub, Nat.reduceMul, Nat.reduceEqDiff, Nat.reduceLeDiff, Nat.reduceLT, ↓reduceIte, Int.reduceToNat, reduceCtorEq, Int.cast_ofNat_Int, Int.reduceLT, Int.reduceLE, Int.reduceGT, Int.reduceGE, Int.reduceEq, Int.reduceNe, Int.reduceNeg, Int.reduceAdd, Int.reduceSub, Int.le_refl]
  refine condD_dec (fun hg => ?_) (fun hg => ?_)
  · have hm2 : m < 2 := by unfold kind at hg; omega
    simp only [go_sem, Nat.reduceAdd, Nat.reduceSub, Nat.reduceMul, Nat.reduceEqDiff, Nat.reduceLeDiff, Nat.reduceLT, ↓reduceIte, Int.reduceToNat, reduceCtorEq, Int.cast_ofNat_Int, Int.reduceLT, Int.reduceLE, Int.reduceGT, Int.reduceGE, Int.reduceEq, Int.reduceNe, Int.reduceNeg, Int.reduceAdd, Int.reduceSub, Int.le_refl]
    refine loop_fam (fun x : Nat × S => ((Ch.nil.put 1 (.ptr 0 0 0)).put 4 (iv (kind m))).put 5 (iv x.1)) (fun x => [.rows 3 [[.view false 3 (x.2.cpus.map Q.row), .view false 3 (x.2.thr.map T.row), iv x.2.quantum]]])
      (fun x => x.2.cpus.length - x.1) (fun x => x.1 ≤ x.2.cpus.length ∧ x.2.At m x.1) (0, u) (by kernel_rfl) ⟨Nat.zero_le _, hu⟩ (Wk.slots' rfl (by simp [wkS, Ch.get])) ?_
    rintro ⟨i, v⟩ ⟨hi, hv1⟩ K2 hK2
    simp only at hi hv1
    simp only [go_sem, Nat.reduceAdd, Nat.reduceSub, Nat.reduceMul, Nat.reduceEqDiff, Nat.reduceLeDiff, Nat.reduceLT, ↓reduceIte, Int.reduceToNat, reduceCtorEq, Int.cast_ofNat_Int, Int.reduceLT, Int.reduceLE, Int.reduceGT, Int.reduceGE, Int.reduceEq, Int.reduceNe, Int.reduceNeg, Int.reduceAdd, Int.reduceSub, Int.le_refl, List.length_map]
    have hv4 := hv1.1.c4
    refine condD_dec (fun hg2 => ?_) (fun hg2 => ?_)
    · have hi' : i < v.cpus.length := by omega
      obtain ⟨hn1, hn2⟩ := hv1.next hm2 hi'
      have hd := done_c v (kind m) i 0
      have e1 : iw .i64 ((i : Int) + 1) = ((i + 1 : Nat) : Int) := by rw [iw64] <;> omega
      generalize v.done (kind m) i 0 = t at hn1 hn2 hd
      simp only [go_sem, Nat.reduceAdd, Nat.reduceSub, Nat.reduceMul, Nat.reduceEqDiff, Nat.reduceLeDiff, Nat.reduceLT, ↓reduceIte, Int.reduceToNat, reduceCtorEq, Int.cast_ofNat_Int, Int.reduceLT, Int.reduceLE, Int.reduceGT, Int.reduceGE, Int.reduceEq, Int.reduceNe, Int.reduceNeg, Int.reduceAdd, Int.reduceSub, Int.le_refl]
      refine rK_use (enters_of Try.func41 rfl (by decide)) (ACalls.pure_use (hd) rfl rfl) ?_
      simp only [go_sem, Nat.reduceAdd, Nat.reduceSub, Nat.reduceMul, Nat.reduceEqDiff, Nat.reduceLeDiff, Nat.reduceLT, ↓reduceIte, Int.reduceToNat, reduceCtorEq, Int.cast_ofNat_Int, Int.reduceLT, Int.reduceLE, Int.reduceGT, Int.reduceGE, Int.reduceEq, Int.reduceNe, Int.reduceNeg, Int.reduceAdd, Int.reduceSub, Int.le_refl, S.av, List.length_map, hn2, e1]
      exact hK2 (i + 1, t) _ _ ⟨by dsimp only; omega, hn1⟩ (by dsimp only; omega) (Wk.drop (m := 1) (by simp [wkS, Ch.get]) (by decide) (by simp) (by simp [chLt, AV.lt]) rfl (by simp [Blk.lt, ltL, AV.lt]))
    · have e : i = v.cpus.length := by omega
      subst e
      have e2 : iw .i64 (kind m - 3) = kind (m + 1) := by rw [iw64] <;> unfold kind <;> omega
      simp only [go_sem, Nat.reduceAdd, Nat.reduceSub, Nat.reduceMul, Nat.reduceEqDiff, Nat.reduceLeDiff, Nat.reduceLT, ↓reduceIte, Int.reduceToNat, reduceCtorEq, Int.cast_ofNat_Int, Int.reduceLT, Int.reduceLE, Int.reduceGT, Int.reduceGE, Int.reduceEq, Int.reduceNe, Int.reduceNeg, Int.reduceAdd, Int.reduceSub, Int.le_refl, e2]
      exact hK (m + 1, v) _ _ ⟨by dsimp only; omega, hv1.turn hm2⟩ (by dsimp only; omega) (Wk.slots' rfl (by simp [wkS, Ch.get]))
  · have hm2 : m = 2 := by unfold kind at hg; omega
    subst hm2
    have hset := hu.2
    have huo := hu.1
    have hu4 := huo.c4
    simp only [go_sem, Nat.reduceAdd, Nat.reduceSub, Nat.reduceMul, Nat.reduceEqDiff, Nat.reduceLeDiff, Nat.reduceLT, ↓reduceIte, Int.reduceToNat, reduceCtorEq, Int.cast_ofNat_Int, Int.reduceLT, Int.reduceLE, Int.reduceGT, Int.reduceGE, Int.reduceEq, Int.reduceNe, Int.reduceNeg, Int.reduceAdd, Int.reduceSub, Int.le_refl]
    refine loop_fam (fun x : Nat × Bool × Bool => ((((Ch.nil.put 1 (.ptr 0 0 0)).put 7 (.bool x.2.1)).put 8 (.bool x.2.2)).put 9 (iv x.1))) (fun x => [.rows 3 [[.view false 3 (u.cpus.map Q.row), .view false 3 (u.thr.map T.row), iv u.quantum]]])
      (fun x => u.cpus.length - x.1) (fun x => x.1 ≤ u.cpus.length ∧ (x.2.1 = true → ∃ (c : Nat) (q : Q), u.cpus[c]? = some q ∧ q.run = -1) ∧ (x.2.2 = true → ∃ (c : Nat) (q : Q), u.cpus[c]? = some q ∧ 0 < q.ready.length)) (0, false, false) (by kernel_rfl) ⟨Nat.zero_le _, by simp, by simp⟩ (Wk.slots' rfl (by simp [wkS, Ch.get])) ?_
    rintro ⟨i, a, b⟩ ⟨hi, ha, hb⟩ K hK
    simp only at hi ha hb
    simp only [go_sem, Nat.reduceAdd, Nat.reduceSub, Nat.reduceMul, Nat.reduceEqDiff, Nat.reduceLeDiff, Nat.reduceLT, ↓reduceIte, Int.reduceToNat, reduceCtorEq, Int.cast_ofNat_Int, Int.reduceLT, Int.reduceLE, Int.reduceGT, Int.reduceGE, Int.reduceEq, Int.reduceNe, Int.reduceNeg, Int.reduceAdd, Int.reduceSub, Int.le_refl, List.length_map]
    refine condD_dec (fun hg2 => ?_) (fun hg2 => ?_)
    · have hi' : i < u.cpus.length := by omega
      obtain ⟨q, hq⟩ := at_lt hi'
      have e1 : iw .i64 ((i : Int) + 1) = ((i + 1 : Nat) : Int) := by rw [iw64] <;> omega
      cases a <;> cases b <;> simp only [go_sem, Nat.reduceAdd, Nat.reduceSub, Nat.reduceMul, Nat.reduceEqDiff, Nat.reduceLeDiff, Nat.reduceLT, ↓reduceIte, Int.reduceToNat, reduceCtorEq, Int.cast_ofNat_Int, Int.reduceLT, Int.reduceLE, Int.reduceGT, Int.reduceGE, Int.reduceEq, Int.reduceNe, Int.reduceNeg, Int.reduceAdd, Int.reduceSub, Int.le_refl, List.length_map, List.getElem?_map, hq, hg2, hi', Int.natCast_nonneg, true_and, Q.row, e1]
      · exact hK (i + 1, decide (q.run = -1), decide (0 < q.ready.length)) _ _ ⟨by dsimp only; omega, fun e => ⟨i, q, hq, by simpa using e⟩, fun e => ⟨i, q, hq, by simpa using e⟩⟩ (by dsimp only; omega) (Wk.slots' rfl (by simp [wkS, Ch.get]))
      · exact hK (i + 1, decide (q.run = -1), true) _ _ ⟨by dsimp only; omega, fun e => ⟨i, q, hq, by simpa using e⟩, hb⟩ (by dsimp only; omega) (Wk.slots' rfl (by simp [wkS, Ch.get]))
      · exact hK (i + 1, true, decide (0 < q.ready.length)) _ _ ⟨by dsimp only; omega, ha, fun e => ⟨i, q, hq, by simpa using e⟩⟩ (by dsimp only; omega) (Wk.slots' rfl (by simp [wkS, Ch.get]))
      · exact hK (i + 1, true, true) _ _ ⟨by dsimp only; omega, ha, hb⟩ (by dsimp only; omega) (Wk.slots' rfl (by simp [wkS, Ch.get]))
    · cases a <;> cases b <;> simp only [go_sem, Nat.reduceAdd, Nat.reduceSub, Nat.reduceMul, Nat.reduceEqDiff, Nat.reduceLeDiff, Nat.reduceLT, ↓reduceIte, Int.reduceToNat, reduceCtorEq, Int.cast_ofNat_Int, Int.reduceLT, Int.reduceLE, Int.reduceGT, Int.reduceGE, Int.reduceEq, Int.reduceNe, Int.reduceNeg, Int.reduceAdd, Int.reduceSub, Int.le_refl]
      · exact fin _ _ rfl
      · exact fin _ _ rfl
      · exact fin _ _ rfl
      · obtain ⟨c, q, hq, hr⟩ := ha rfl
        obtain ⟨d, r, hr2, hm⟩ := hb rfl
        have hrun : r.run = -1 ∨ 0 ≤ r.run := by
          rcases huo.run d r hr2 with h | h
          · exact .inl h.1
          · exact .inr (S.is_lt h.1).1
        exact (hset.ends hq hr2 hr hm hrun).elim
end Go.Proofs.Ytljepmbikbdicaa

set_option maxRecDepth 100000
set_option linter.unusedVariables false
set_option linter.unusedSimpArgs false
namespace Go.Proofs.Ytljepmbikbdicaa.schedWorks
open Go.AM
open Go.ChangeShapes Go.WideShapes Go.ChangeAt Go.RowKit
theorem own : ownKnob Try.prog.godebug = none := by kernel_rfl
theorem lifted (os : Os) (started : os.Started) (H : Type) (enc : TypeId × Value → H) :
    ReturnsInHanded {} Try.checked os 11 .any (Rows.schedWorksSpec.pre6 enc Try.prog Try.f11 Rows.schedWorksRow.domain false) (Rows.schedWorksSpec.post enc Try.prog Try.f11 false true false false) := by
  refine returnsInHanded_of_change (C := Try.checked) own started (by kernel_rfl) Try.func11
    (ChangeSpec.witness6 (enc := enc) (C := Try.checked) false ⟨#[], #[.agg #[.slice none 0 0, .slice none 0 0, .int .i64 0]], []⟩ 8 (by kernel_rfl) (by kernel_rfl) (by kernel_rfl) (by kernel_rfl)) ?_
  intro W base args ds gs before hval0 hW hcnd _
  have hval : ∀ (j : Nat) t v, Try.f11.params[j]? = some t → args[j]? = some v → Value.okWide Try.prog W .any base t v := hval0
  have hW' := hW
  obtain ⟨p, q, hA0, hV, rfl, hfz, hnd⟩ := hW'
  have hA : DataW.TrodAll enc Try.prog W 0 (fun _ => true) true Try.f11.params.toList args.toList ds p := hA0
  rw [Try.params11] at hA hval
  obtain ⟨v0, vs0, d0, ds0, p0, q0, hargs, rfl, rfl, h0, r0⟩ := trodAll_cons hA
  obtain ⟨rfl, rfl, rfl⟩ := trodAll_nil r0
  obtain rfl : args = #[v0] := by cases args; simp_all
  obtain ⟨a0, g0⟩ := read_sched (hval 0 _ v0 rfl rfl) h0
  refine law_contract (works_c a0) hW rfl rfl Try.underlying4 rfl lout ?_ (vrs_cons g0 vrs_nil)
  intro t ht
  rw [Try.params11] at ht
  simp only [List.mem_cons, List.not_mem_nil, or_false] at ht
  rcases ht with rfl
  · exact rd_sched
theorem over : Rows.schedWorksRow.holds Try.pinned (OpenSpec.ofChange Rows.schedWorksSpec) :=
  OpenClaim.holds_of_wide 11 Try.f11 rfl rfl rfl rfl rfl rfl rfl ⟨rfl, rfl, rfl, rfl, rfl⟩ rfl rfl rfl rfl rfl (by kernel_rfl) Try.func11 (by kernel_rfl)
    (of_decide_eq_true (by kernel_rfl)) (by unfold Func.isWrapper; first | (rw [if_pos (by decide +kernel)]; kernel_rfl) | (rw [if_neg (by decide +kernel)]; exact ⟨rfl, rfl⟩))
    (fun os started H enc _ => lifted os started H enc)
end Go.Proofs.Ytljepmbikbdicaa.schedWorks
namespace Go.Proofs.Ytljepmbikbdicaa
theorem SchedWorks_holds : Rows.SchedWorksSaid := schedWorks.over
end Go.Proofs.Ytljepmbikbdicaa
