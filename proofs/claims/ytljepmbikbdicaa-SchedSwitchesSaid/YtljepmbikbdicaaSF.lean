/- Sched: an operation of the laws. No condition. -/
import Derived.Test.YtljepmbikbdicaaSE
import Derived.Test.YtljepmbikbdicaaSD
set_option maxRecDepth 100000
set_option linter.unusedVariables false
set_option linter.unusedSimpArgs false
namespace Go.Proofs.Ytljepmbikbdicaa
open Go.AM
/-- What an operation leads to, and its error otherwise. -/
def S.op (s : S) (k n p : Int) : Option S × Int :=
  if k = 0 then (s.eAdd p n, s.rAdd p n) else
  if k = 1 then (s.eEnd n, 51) else
  if k = 2 then (s.eBlock n, 51) else
  if k = 3 then (s.eWake n, 51) else
  if k = 4 then (s.eSetPri n p, s.rSetPri n) else
  if k = 5 then ((s.cp n).map (fun _ => s.sw n.toNat), 52) else
  if k = 6 then ((s.cp n).map (fun _ => s.tick n.toNat), 52) else
  if k = 7 then (s.eYield n, 52) else
  if k = 8 then ((s.cp n).map (fun _ => s.steal n.toNat), 52) else
  (none, 1)
def S.done (s : S) (k n p : Int) : S := if s.valid = true then (s.op k n p).1.getD s else s
theorem rAdd_ne (s : S) (p n : Int) : s.rAdd p n ≠ 0 := by unfold S.rAdd; split <;> (try split) <;> decide
theorem rSetPri_ne (s : S) (n : Int) : s.rSetPri n ≠ 0 := by unfold S.rSetPri; split <;> (try split) <;> decide
theorem S.done_of {s : S} {k n p e1 : Int} {s1 : S} {r : Option S} {e : Int} (ho : s.op k n p = (r, e)) (he : e ≠ 0) (h : s.res r e = (s1, e1)) : (e1 = 0 ∧ s.done k n p = s1) ∨ (e1 ≠ 0 ∧ s.done k n p = s) := by
  unfold S.done
  rcases S.res_cases s r e with ⟨s', hv, rfl, hr⟩ | ⟨hv, rfl, hr⟩ | ⟨hv, hr⟩
  · rw [hr] at h; cases h
    exact .inl ⟨rfl, by rw [if_pos hv, ho]; rfl⟩
  · rw [hr] at h; cases h
    exact .inr ⟨he, by rw [if_pos hv, ho]; rfl⟩
  · rw [hr] at h; cases h
    exact .inr ⟨by decide, by rw [if_neg (by simp [hv])]⟩
theorem done_c (s : S) (k n p : Int) : ACalls Try.prog 41 [s.av, .agg [iv k, iv n, iv p]] [] (fun o H => o = .ret (s.done k n p).av ∧ H = []) := by
  refine ACalls.up ?_
  refine ACalls.intro (cs := []) (n := 104) Try.func41 rfl rfl rfl (by kernel_rfl) rfl ?_
  have fin : ∀ v H, v = s.done k n p → Up 0 (fun (o : Out) (H : Heap) => o = Out.ret (s.done k n p).av ∧ H = []) (.ret v.av) H := fun v H e => by subst e; exact .gc 0 (Nat.le_refl _) (Nat.zero_le _) (by simp [Out.lt, AV.lt, ltL, S.av]) (by simp) (.done ⟨rfl, rfl⟩)
  generalize (fun (o : Out) (H : Heap) => o = Out.ret (s.done k n p).av ∧ H = []) = post at fin ⊢
  simp only [go_sem, Nat.reduceAdd, Nat.reduceSub, Nat.reduceMul, Nat.reduceEqDiff, Nat.reduceLeDiff, Nat.reduceLT, ↓reduceIte, Int.reduceToNat, reduceCtorEq, S.av]
  refine condD_dec (fun h0 => ?_) (fun h0 => ?_)
  · subst h0
    have hc := Add_c s p n
    have ho : s.op 0 n p = (s.eAdd p n, s.rAdd p n) := rfl
    obtain ⟨⟨s1, e1⟩, hr⟩ : ∃ x, s.res (s.op 0 n p).1 (s.op 0 n p).2 = x := ⟨_, rfl⟩
    have hd := S.done_of ho (rAdd_ne s p n) hr
    rw [ho] at hr
    simp only [hr] at hc
    simp only [go_sem, Nat.reduceAdd, Nat.reduceSub, Nat.reduceMul, Nat.reduceEqDiff, Nat.reduceLeDiff, Nat.reduceLT, ↓reduceIte, Int.reduceToNat, reduceCtorEq]
    refine rK_use (enters_of Try.func18 rfl (by decide)) (ACalls.pure_use (hc) rfl rfl) ?_
    simp only [go_sem, Nat.reduceAdd, Nat.reduceSub, Nat.reduceMul, Nat.reduceEqDiff, Nat.reduceLeDiff, Nat.reduceLT, ↓reduceIte, Int.reduceToNat, reduceCtorEq, Int.cast_ofNat_Int, Int.reduceLT, Int.reduceLE, Int.reduceGT, Int.reduceGE, Int.reduceEq, Int.reduceNe, Int.reduceNeg, Int.reduceAdd, Int.reduceSub, Int.le_refl, S.av]
    refine condD_dec (fun he => ?_) (fun he => ?_) <;> simp only [go_sem, Nat.reduceAdd, Nat.reduceSub, Nat.reduceMul, Nat.reduceEqDiff, Nat.reduceLeDiff, Nat.reduceLT, ↓reduceIte, Int.reduceToNat, reduceCtorEq, Int.cast_ofNat_Int, Int.reduceLT, Int.reduceLE, Int.reduceGT, Int.reduceGE, Int.reduceEq, Int.reduceNe, Int.reduceNeg, Int.reduceAdd, Int.reduceSub, Int.le_refl]
    · exact fin _ _ (hd.resolve_left (fun h => he h.1)).2.symm
    · exact fin _ _ (hd.resolve_right (fun h => h.1 (by omega))).2.symm
  simp only [go_sem, Nat.reduceAdd, Nat.reduceSub, Nat.reduceMul, Nat.reduceEqDiff, Nat.reduceLeDiff, Nat.reduceLT, ↓reduceIte, Int.reduceToNat, reduceCtorEq]
  refine condD_dec (fun h1 => ?_) (fun h1 => ?_)
  · subst h1
    have hc := End_c s n
    have ho : s.op 1 n p = (s.eEnd n, 51) := rfl
    obtain ⟨⟨s1, e1⟩, hr⟩ : ∃ x, s.res (s.op 1 n p).1 (s.op 1 n p).2 = x := ⟨_, rfl⟩
    have hd := S.done_of ho (by decide) hr
    rw [ho] at hr
    simp only [hr] at hc
    simp only [go_sem, Nat.reduceAdd, Nat.reduceSub, Nat.reduceMul, Nat.reduceEqDiff, Nat.reduceLeDiff, Nat.reduceLT, ↓reduceIte, Int.reduceToNat, reduceCtorEq]
    refine rK_use (enters_of Try.func19 rfl (by decide)) (ACalls.pure_use (hc) rfl rfl) ?_
    simp only [go_sem, Nat.reduceAdd, Nat.reduceSub, Nat.reduceMul, Nat.reduceEqDiff, Nat.reduceLeDiff, Nat.reduceLT, ↓reduceIte, Int.reduceToNat, reduceCtorEq, Int.cast_ofNat_Int, Int.reduceLT, Int.reduceLE, Int.reduceGT, Int.reduceGE, Int.reduceEq, Int.reduceNe, Int.reduceNeg, Int.reduceAdd, Int.reduceSub, Int.le_refl, S.av]
    refine condD_dec (fun he => ?_) (fun he => ?_) <;> simp only [go_sem, Nat.reduceAdd, Nat.reduceSub, Nat.reduceMul, Nat.reduceEqDiff, Nat.reduceLeDiff, Nat.reduceLT, ↓reduceIte, Int.reduceToNat, reduceCtorEq, Int.cast_ofNat_Int, Int.reduceLT, Int.reduceLE, Int.reduceGT, Int.reduceGE, Int.reduceEq, Int.reduceNe, Int.reduceNeg, Int.reduceAdd, Int.reduceSub, Int.le_refl]
    · exact fin _ _ (hd.resolve_left (fun h => he h.1)).2.symm
    · exact fin _ _ (hd.resolve_right (fun h => h.1 (by omega))).2.symm
  simp only [go_sem, Nat.reduceAdd, Nat.reduceSub, Nat.reduceMul, Nat.reduceEqDiff, Nat.reduceLeDiff, Nat.reduceLT, ↓reduceIte, Int.reduceToNat, reduceCtorEq]
  refine condD_dec (fun h2 => ?_) (fun h2 => ?_)
  · subst h2
    have hc := Block_c s n
    have ho : s.op 2 n p = (s.eBlock n, 51) := rfl
    obtain ⟨⟨s1, e1⟩, hr⟩ : ∃ x, s.res (s.op 2 n p).1 (s.op 2 n p).2 = x := ⟨_, rfl⟩
    have hd := S.done_of ho (by decide) hr
    rw [ho] at hr
    simp only [hr] at hc
    simp only [go_sem, Nat.reduceAdd, Nat.reduceSub, Nat.reduceMul, Nat.reduceEqDiff, Nat.reduceLeDiff, Nat.reduceLT, ↓reduceIte, Int.reduceToNat, reduceCtorEq]
    refine rK_use (enters_of Try.func20 rfl (by decide)) (ACalls.pure_use (hc) rfl rfl) ?_
    simp only [go_sem, Nat.reduceAdd, Nat.reduceSub, Nat.reduceMul, Nat.reduceEqDiff, Nat.reduceLeDiff, Nat.reduceLT, ↓reduceIte, Int.reduceToNat, reduceCtorEq, Int.cast_ofNat_Int, Int.reduceLT, Int.reduceLE, Int.reduceGT, Int.reduceGE, Int.reduceEq, Int.reduceNe, Int.reduceNeg, Int.reduceAdd, Int.reduceSub, Int.le_refl, S.av]
    refine condD_dec (fun he => ?_) (fun he => ?_) <;> simp only [go_sem, Nat.reduceAdd, Nat.reduceSub, Nat.reduceMul, Nat.reduceEqDiff, Nat.reduceLeDiff, Nat.reduceLT, ↓reduceIte, Int.reduceToNat, reduceCtorEq, Int.cast_ofNat_Int, Int.reduceLT, Int.reduceLE, Int.reduceGT, Int.reduceGE, Int.reduceEq, Int.reduceNe, Int.reduceNeg, Int.reduceAdd, Int.reduceSub, Int.le_refl]
    · exact fin _ _ (hd.resolve_left (fun h => he h.1)).2.symm
    · exact fin _ _ (hd.resolve_right (fun h => h.1 (by omega))).2.symm
  simp only [go_sem, Nat.reduceAdd, Nat.reduceSub, Nat.reduceMul, Nat.reduceEqDiff, Nat.reduceLeDiff, Nat.reduceLT, ↓reduceIte, Int.reduceToNat, reduceCtorEq]
  refine condD_dec (fun h3 => ?_) (fun h3 => ?_)
  · subst h3
    have hc := Wake_c s n
    have ho : s.op 3 n p = (s.eWake n, 51) := rfl
    obtain ⟨⟨s1, e1⟩, hr⟩ : ∃ x, s.res (s.op 3 n p).1 (s.op 3 n p).2 = x := ⟨_, rfl⟩
    have hd := S.done_of ho (by decide) hr
    rw [ho] at hr
    simp only [hr] at hc
    simp only [go_sem, Nat.reduceAdd, Nat.reduceSub, Nat.reduceMul, Nat.reduceEqDiff, Nat.reduceLeDiff, Nat.reduceLT, ↓reduceIte, Int.reduceToNat, reduceCtorEq]
    refine rK_use (enters_of Try.func21 rfl (by decide)) (ACalls.pure_use (hc) rfl rfl) ?_
    simp only [go_sem, Nat.reduceAdd, Nat.reduceSub, Nat.reduceMul, Nat.reduceEqDiff, Nat.reduceLeDiff, Nat.reduceLT, ↓reduceIte, Int.reduceToNat, reduceCtorEq, Int.cast_ofNat_Int, Int.reduceLT, Int.reduceLE, Int.reduceGT, Int.reduceGE, Int.reduceEq, Int.reduceNe, Int.reduceNeg, Int.reduceAdd, Int.reduceSub, Int.le_refl, S.av]
    refine condD_dec (fun he => ?_) (fun he => ?_) <;> simp only [go_sem, Nat.reduceAdd, Nat.reduceSub, Nat.reduceMul, Nat.reduceEqDiff, Nat.reduceLeDiff, Nat.reduceLT, ↓reduceIte, Int.reduceToNat, reduceCtorEq, Int.cast_ofNat_Int, Int.reduceLT, Int.reduceLE, Int.reduceGT, Int.reduceGE, Int.reduceEq, Int.reduceNe, Int.reduceNeg, Int.reduceAdd, Int.reduceSub, Int.le_refl]
    · exact fin _ _ (hd.resolve_left (fun h => he h.1)).2.symm
    · exact fin _ _ (hd.resolve_right (fun h => h.1 (by omega))).2.symm
  simp only [go_sem, Nat.reduceAdd, Nat.reduceSub, Nat.reduceMul, Nat.reduceEqDiff, Nat.reduceLeDiff, Nat.reduceLT, ↓reduceIte, Int.reduceToNat, reduceCtorEq]
  refine condD_dec (fun h4 => ?_) (fun h4 => ?_)
  · subst h4
    have hc := SetPri_c s n p
    have ho : s.op 4 n p = (s.eSetPri n p, s.rSetPri n) := rfl
    obtain ⟨⟨s1, e1⟩, hr⟩ : ∃ x, s.res (s.op 4 n p).1 (s.op 4 n p).2 = x := ⟨_, rfl⟩
    have hd := S.done_of ho (rSetPri_ne s n) hr
    rw [ho] at hr
    simp only [hr] at hc
    simp only [go_sem, Nat.reduceAdd, Nat.reduceSub, Nat.reduceMul, Nat.reduceEqDiff, Nat.reduceLeDiff, Nat.reduceLT, ↓reduceIte, Int.reduceToNat, reduceCtorEq]
    refine rK_use (enters_of Try.func22 rfl (by decide)) (ACalls.pure_use (hc) rfl rfl) ?_
    simp only [go_sem, Nat.reduceAdd, Nat.reduceSub, Nat.reduceMul, Nat.reduceEqDiff, Nat.reduceLeDiff, Nat.reduceLT, ↓reduceIte, Int.reduceToNat, reduceCtorEq, Int.cast_ofNat_Int, Int.reduceLT, Int.reduceLE, Int.reduceGT, Int.reduceGE, Int.reduceEq, Int.reduceNe, Int.reduceNeg, Int.reduceAdd, Int.reduceSub, Int.le_refl, S.av]
    refine condD_dec (fun he => ?_) (fun he => ?_) <;> simp only [go_sem, Nat.reduceAdd, Nat.reduceSub, Nat.reduceMul, Nat.reduceEqDiff, Nat.reduceLeDiff, Nat.reduceLT, ↓reduceIte, Int.reduceToNat, reduceCtorEq, Int.cast_ofNat_Int, Int.reduceLT, Int.reduceLE, Int.reduceGT, Int.reduceGE, Int.reduceEq, Int.reduceNe, Int.reduceNeg, Int.reduceAdd, Int.reduceSub, Int.le_refl]
    · exact fin _ _ (hd.resolve_left (fun h => he h.1)).2.symm
    · exact fin _ _ (hd.resolve_right (fun h => h.1 (by omega))).2.symm
  simp only [go_sem, Nat.reduceAdd, Nat.reduceSub, Nat.reduceMul, Nat.reduceEqDiff, Nat.reduceLeDiff, Nat.reduceLT, ↓reduceIte, Int.reduceToNat, reduceCtorEq]
  refine condD_dec (fun h5 => ?_) (fun h5 => ?_)
  · subst h5
    have hc := Switch_c s n
    have ho : s.op 5 n p = ((s.cp n).map (fun _ => s.sw n.toNat), 52) := rfl
    obtain ⟨⟨s1, e1⟩, hr⟩ : ∃ x, s.res (s.op 5 n p).1 (s.op 5 n p).2 = x := ⟨_, rfl⟩
    have hd := S.done_of ho (by decide) hr
    rw [ho] at hr
    simp only [hr] at hc
    simp only [go_sem, Nat.reduceAdd, Nat.reduceSub, Nat.reduceMul, Nat.reduceEqDiff, Nat.reduceLeDiff, Nat.reduceLT, ↓reduceIte, Int.reduceToNat, reduceCtorEq]
    refine rK_use (enters_of Try.func14 rfl (by decide)) (ACalls.pure_use (hc) rfl rfl) ?_
    simp only [go_sem, Nat.reduceAdd, Nat.reduceSub, Nat.reduceMul, Nat.reduceEqDiff, Nat.reduceLeDiff, Nat.reduceLT, ↓reduceIte, Int.reduceToNat, reduceCtorEq, Int.cast_ofNat_Int, Int.reduceLT, Int.reduceLE, Int.reduceGT, Int.reduceGE, Int.reduceEq, Int.reduceNe, Int.reduceNeg, Int.reduceAdd, Int.reduceSub, Int.le_refl, S.av]
    refine condD_dec (fun he => ?_) (fun he => ?_) <;> simp only [go_sem, Nat.reduceAdd, Nat.reduceSub, Nat.reduceMul, Nat.reduceEqDiff, Nat.reduceLeDiff, Nat.reduceLT, ↓reduceIte, Int.reduceToNat, reduceCtorEq, Int.cast_ofNat_Int, Int.reduceLT, Int.reduceLE, Int.reduceGT, Int.reduceGE, Int.reduceEq, Int.reduceNe, Int.reduceNeg, Int.reduceAdd, Int.reduceSub, Int.le_refl]
    · exact fin _ _ (hd.resolve_left (fun h => he h.1)).2.symm
    · exact fin _ _ (hd.resolve_right (fun h => h.1 (by omega))).2.symm
  simp only [go_sem, Nat.reduceAdd, Nat.reduceSub, Nat.reduceMul, Nat.reduceEqDiff, Nat.reduceLeDiff, Nat.reduceLT, ↓reduceIte, Int.reduceToNat, reduceCtorEq]
  refine condD_dec (fun h6 => ?_) (fun h6 => ?_)
  · subst h6
    have hc := Tick_c s n
    have ho : s.op 6 n p = ((s.cp n).map (fun _ => s.tick n.toNat), 52) := rfl
    obtain ⟨⟨s1, e1⟩, hr⟩ : ∃ x, s.res (s.op 6 n p).1 (s.op 6 n p).2 = x := ⟨_, rfl⟩
    have hd := S.done_of ho (by decide) hr
    rw [ho] at hr
    simp only [hr] at hc
    simp only [go_sem, Nat.reduceAdd, Nat.reduceSub, Nat.reduceMul, Nat.reduceEqDiff, Nat.reduceLeDiff, Nat.reduceLT, ↓reduceIte, Int.reduceToNat, reduceCtorEq]
    refine rK_use (enters_of Try.func17 rfl (by decide)) (ACalls.pure_use (hc) rfl rfl) ?_
    simp only [go_sem, Nat.reduceAdd, Nat.reduceSub, Nat.reduceMul, Nat.reduceEqDiff, Nat.reduceLeDiff, Nat.reduceLT, ↓reduceIte, Int.reduceToNat, reduceCtorEq, Int.cast_ofNat_Int, Int.reduceLT, Int.reduceLE, Int.reduceGT, Int.reduceGE, Int.reduceEq, Int.reduceNe, Int.reduceNeg, Int.reduceAdd, Int.reduceSub, Int.le_refl, S.av]
    refine condD_dec (fun he => ?_) (fun he => ?_) <;> simp only [go_sem, Nat.reduceAdd, Nat.reduceSub, Nat.reduceMul, Nat.reduceEqDiff, Nat.reduceLeDiff, Nat.reduceLT, ↓reduceIte, Int.reduceToNat, reduceCtorEq, Int.cast_ofNat_Int, Int.reduceLT, Int.reduceLE, Int.reduceGT, Int.reduceGE, Int.reduceEq, Int.reduceNe, Int.reduceNeg, Int.reduceAdd, Int.reduceSub, Int.le_refl]
    · exact fin _ _ (hd.resolve_left (fun h => he h.1)).2.symm
    · exact fin _ _ (hd.resolve_right (fun h => h.1 (by omega))).2.symm
  simp only [go_sem, Nat.reduceAdd, Nat.reduceSub, Nat.reduceMul, Nat.reduceEqDiff, Nat.reduceLeDiff, Nat.reduceLT, ↓reduceIte, Int.reduceToNat, reduceCtorEq]
  refine condD_dec (fun h7 => ?_) (fun h7 => ?_)
  · subst h7
    have hc := Yield_c s n
    have ho : s.op 7 n p = (s.eYield n, 52) := rfl
    obtain ⟨⟨s1, e1⟩, hr⟩ : ∃ x, s.res (s.op 7 n p).1 (s.op 7 n p).2 = x := ⟨_, rfl⟩
    have hd := S.done_of ho (by decide) hr
    rw [ho] at hr
    simp only [hr] at hc
    simp only [go_sem, Nat.reduceAdd, Nat.reduceSub, Nat.reduceMul, Nat.reduceEqDiff, Nat.reduceLeDiff, Nat.reduceLT, ↓reduceIte, Int.reduceToNat, reduceCtorEq]
    refine rK_use (enters_of Try.func35 rfl (by decide)) (ACalls.pure_use (hc) rfl rfl) ?_
    simp only [go_sem, Nat.reduceAdd, Nat.reduceSub, Nat.reduceMul, Nat.reduceEqDiff, Nat.reduceLeDiff, Nat.reduceLT, ↓reduceIte, Int.reduceToNat, reduceCtorEq, Int.cast_ofNat_Int, Int.reduceLT, Int.reduceLE, Int.reduceGT, Int.reduceGE, Int.reduceEq, Int.reduceNe, Int.reduceNeg, Int.reduceAdd, Int.reduceSub, Int.le_refl, S.av]
    refine condD_dec (fun he => ?_) (fun he => ?_) <;> simp only [go_sem, Nat.reduceAdd, Nat.reduceSub, Nat.reduceMul, Nat.reduceEqDiff, Nat.reduceLeDiff, Nat.reduceLT, ↓reduceIte, Int.reduceToNat, reduceCtorEq, Int.cast_ofNat_Int, Int.reduceLT, Int.reduceLE, Int.reduceGT, Int.reduceGE, Int.reduceEq, Int.reduceNe, Int.reduceNeg, Int.reduceAdd, Int.reduceSub, Int.le_refl]
    · exact fin _ _ (hd.resolve_left (fun h => he h.1)).2.symm
    · exact fin _ _ (hd.resolve_right (fun h => h.1 (by omega))).2.symm
  simp only [go_sem, Nat.reduceAdd, Nat.reduceSub, Nat.reduceMul, Nat.reduceEqDiff, Nat.reduceLeDiff, Nat.reduceLT, ↓reduceIte, Int.reduceToNat, reduceCtorEq]
  refine condD_dec (fun h8 => ?_) (fun h8 => ?_)
  · subst h8
    have hc := Steal_c s n
    have ho : s.op 8 n p = ((s.cp n).map (fun _ => s.steal n.toNat), 52) := rfl
    obtain ⟨⟨s1, e1⟩, hr⟩ : ∃ x, s.res (s.op 8 n p).1 (s.op 8 n p).2 = x := ⟨_, rfl⟩
    have hd := S.done_of ho (by decide) hr
    rw [ho] at hr
    simp only [hr] at hc
    simp only [go_sem, Nat.reduceAdd, Nat.reduceSub, Nat.reduceMul, Nat.reduceEqDiff, Nat.reduceLeDiff, Nat.reduceLT, ↓reduceIte, Int.reduceToNat, reduceCtorEq]
    refine rK_use (enters_of Try.func36 rfl (by decide)) (ACalls.pure_use (hc) rfl rfl) ?_
    simp only [go_sem, Nat.reduceAdd, Nat.reduceSub, Nat.reduceMul, Nat.reduceEqDiff, Nat.reduceLeDiff, Nat.reduceLT, ↓reduceIte, Int.reduceToNat, reduceCtorEq, Int.cast_ofNat_Int, Int.reduceLT, Int.reduceLE, Int.reduceGT, Int.reduceGE, Int.reduceEq, Int.reduceNe, Int.reduceNeg, Int.reduceAdd, Int.reduceSub, Int.le_refl, S.av]
    refine condD_dec (fun he => ?_) (fun he => ?_) <;> simp only [go_sem, Nat.reduceAdd, Nat.reduceSub, Nat.reduceMul, Nat.reduceEqDiff, Nat.reduceLeDiff, Nat.reduceLT, ↓reduceIte, Int.reduceToNat, reduceCtorEq, Int.cast_ofNat_Int, Int.reduceLT, Int.reduceLE, Int.reduceGT, Int.reduceGE, Int.reduceEq, Int.reduceNe, Int.reduceNeg, Int.reduceAdd, Int.reduceSub, Int.le_refl]
    · exact fin _ _ (hd.resolve_left (fun h => he h.1)).2.symm
    · exact fin _ _ (hd.resolve_right (fun h => h.1 (by omega))).2.symm

  have hd : s.done k n p = s := by
    unfold S.done S.op
    rw [if_neg h0, if_neg h1, if_neg h2, if_neg h3, if_neg h4, if_neg h5, if_neg h6, if_neg h7, if_neg h8]
    simp
  simp only [go_sem, Nat.reduceAdd, Nat.reduceSub, Nat.reduceMul, Nat.reduceEqDiff, Nat.reduceLeDiff, Nat.reduceLT, ↓reduceIte, Int.reduceToNat, reduceCtorEq, Int.cast_ofNat_Int, Int.reduceLT, Int.reduceLE, Int.reduceGT, Int.reduceGE, Int.reduceEq, Int.reduceNe, Int.reduceNeg, Int.reduceAdd, Int.reduceSub, Int.le_refl, S.av]
  exact fin _ _ hd.symm
end Go.Proofs.Ytljepmbikbdicaa

set_option maxRecDepth 100000
set_option linter.unusedVariables false
set_option linter.unusedSimpArgs false
namespace Go.Proofs.Ytljepmbikbdicaa
open Go.AM
def S.sts (s : S) : List Int := s.thr.map T.st
theorem sts_len (s : S) : s.sts.length = s.thr.length := by simp [S.sts]
theorem sts_at {s : S} {i : Nat} {t : T} (h : s.thr[i]? = some t) : s.sts[i]? = some t.st := by simp [S.sts, h]
theorem setQ_sts (s : S) (c : Nat) (q : Q) : (s.setQ c q).sts = s.sts := rfl
theorem take_sts (s : S) (i : Nat) : (s.take i).sts = s.sts := by rw [S.sts, S.take_thr]; rfl
theorem setSt_sts (s : S) (i : Nat) (st : Int) : (s.setSt i st).sts = s.sts.set i st := by
  unfold S.setSt S.sts
  split
  · rename_i h
    rw [List.set_eq_of_length_le]
    simpa using h
  · simp [List.map_set]
theorem map_set_same {α β : Type} (f : α → β) {l : List α} {i : Nat} {a b : α} (h : l[i]? = some a) (he : f b = f a) : (l.set i b).map f = l.map f := by
  rw [List.map_set, he]
  apply List.ext_getElem? 
  intro k
  rw [List.getElem?_set]
  split
  · rename_i hk
    subst hk
    obtain ⟨h1, h2⟩ := List.getElem?_eq_some_iff.1 h
    simp [h1, h2]
  · rfl
theorem setPri_sts (s : S) (i : Nat) (p : Int) : (s.setPri i p).sts = s.sts := by
  unfold S.setPri
  split
  · rfl
  · rename_i t h
    exact map_set_same T.st h rfl
theorem setCpu_sts (s : S) (i : Nat) (p : Int) : (s.setCpu i p).sts = s.sts := by
  unfold S.setCpu
  split
  · rfl
  · rename_i t h
    exact map_set_same T.st h rfl
theorem put_sts (s : S) (i : Nat) (f : Bool) : (s.put i f).sts = s.sts ∨ (s.put i f).sts = s.sts.set i 1 := by
  unfold S.put
  split
  · exact .inl rfl
  · split
    · exact .inl rfl
    · right; simp [S.sts, List.map_set]
theorem put_sts_len (s : S) (i : Nat) (f : Bool) : (s.put i f).sts.length = s.sts.length := by
  rcases put_sts s i f with h | h <;> rw [h]
  simp
theorem put_sts_ne (s : S) (i : Nat) (f : Bool) {k : Nat} (h : k ≠ i) : (s.put i f).sts[k]? = s.sts[k]? := by
  rcases put_sts s i f with e | e <;> rw [e]
  rw [List.getElem?_set_ne (fun e => h e.symm)]
theorem put_cpl (s : S) (i : Nat) (f : Bool) : (s.put i f).cpus.length = s.cpus.length := by
  unfold S.put
  split
  · rfl
  · split
    · rfl
    · simp
theorem setSt_cpl (s : S) (i : Nat) (st : Int) : (s.setSt i st).cpus = s.cpus := by
  unfold S.setSt
  split <;> rfl
theorem setPri_cpl (s : S) (i : Nat) (st : Int) : (s.setPri i st).cpus = s.cpus := by
  unfold S.setPri
  split <;> rfl
theorem setCpu_cpl (s : S) (i : Nat) (st : Int) : (s.setCpu i st).cpus = s.cpus := by
  unfold S.setCpu
  split <;> rfl
/-- What an operation may change. -/
structure Keeps (s t : S) (k n : Int) : Prop where
  ok : t.Ok
  cl : t.cpus.length = s.cpus.length
  tl : s.thr.length ≤ t.thr.length
  tu : t.thr.length ≤ s.thr.length + 1
  st : ∀ i : Nat, i < s.thr.length → t.sts[i]? = s.sts[i]? ∨ (1 ≤ k ∧ k ≤ 4 ∧ n = i) ∨ (k = 5 ∧ 0 ≤ n ∧ n < s.cpus.length ∧ (s.runOf n.toNat = i ∨ t.runOf n.toNat = i))
theorem Keeps.rfl' {s : S} (h : s.Ok) (k n : Int) : Keeps s s k n := ⟨h, rfl, Nat.le_refl _, Nat.le_succ _, fun _ _ => .inl rfl⟩
/-- Of one thread, in the states of a list. -/
theorem Keeps.one {s t : S} {k : Int} {i : Nat} (h : t.Ok) (hc : t.cpus.length = s.cpus.length) (hl : t.sts.length = s.sts.length) (hk : 1 ≤ k ∧ k ≤ 4) (hs : ∀ j, j ≠ i → t.sts[j]? = s.sts[j]?) : Keeps s t k i := by
  rw [sts_len, sts_len] at hl
  refine ⟨h, hc, by omega, by omega, fun j _ => ?_⟩
  by_cases e : j = i
  · subst e; exact .inr (.inl ⟨hk.1, hk.2, rfl⟩)
  · exact .inl (hs j e)
theorem Keeps.same {s t : S} {k n : Int} (h : t.Ok) (hc : t.cpus.length = s.cpus.length) (hs : t.sts = s.sts) : Keeps s t k n := by
  have hl : t.sts.length = s.sts.length := by rw [hs]
  rw [sts_len, sts_len] at hl
  exact ⟨h, hc, by omega, by omega, fun j _ => .inl (by rw [hs])⟩
theorem back_sts (s : S) (q : Q) {k : Nat} (h : q.run ≠ k) : (s.back q).sts[k]? = s.sts[k]? := by
  unfold S.back
  split
  · exact put_sts_ne _ _ _ (by omega)
  · rfl
theorem back_len (s : S) (q : Q) : (s.back q).sts.length = s.sts.length ∧ (s.back q).cpus.length = s.cpus.length := by
  unfold S.back
  split
  · exact ⟨put_sts_len _ _ _, put_cpl _ _ _⟩
  · exact ⟨rfl, rfl⟩
theorem fore_sts (s : S) (c : Nat) {k : Nat} (hc : c < s.cpus.length) (h0 : ∀ q x l, s.cpus[c]? = some q → q.ready = x :: l → 0 ≤ x) (h : (s.fore c).runOf c ≠ k) : (s.fore c).sts[k]? = s.sts[k]? := by
  unfold S.fore at h ⊢
  cases hq : s.cpus[c]? with
  | none => rfl
  | some q =>
    cases hx : q.ready with
    | nil => simp only [hx]
    | cons x l =>
      have := h0 q x l hq hx
      simp only [hq, hx, S.runOf, setSt_cpl, setQ_self hc] at h ⊢
      rw [setSt_sts, setQ_sts, List.getElem?_set_ne (by omega)]
theorem fore_len (s : S) (c : Nat) : (s.fore c).sts.length = s.sts.length ∧ (s.fore c).cpus.length = s.cpus.length := by
  unfold S.fore
  split
  · split
    · rw [setSt_sts, setSt_cpl]
      exact ⟨by simp [setQ_sts], by simp [S.setQ]⟩
    · exact ⟨rfl, rfl⟩
  · exact ⟨rfl, rfl⟩
theorem S.Ok.keeps_sw {s : S} (h : s.Ok) {c : Nat} {q : Q} (hq : s.cpus[c]? = some q) : Keeps s (s.sw c) 5 c := by
  have hok := h.sw c
  have hlt := (List.getElem?_eq_some_iff.1 hq).1
  generalize ht : s.sw c = t at hok ⊢
  unfold S.sw at ht
  simp only [hq] at ht
  split at ht
  · rename_i hd
    obtain ⟨q1, x, l, g1, g2, g3, _⟩ := h.back hq hd
    have b := back_len s q
    have f := fore_len (s.back q) c
    rw [ht] at f
    have hl : t.sts.length = s.sts.length := by omega
    rw [sts_len, sts_len] at hl
    refine ⟨hok, by omega, by omega, by omega, fun i hi => ?_⟩
    by_cases e1 : s.runOf c = i
    · exact .inr (.inr ⟨rfl, by omega, by omega, .inl (by simpa using e1)⟩)
    by_cases e2 : t.runOf c = i
    · exact .inr (.inr ⟨rfl, by omega, by omega, .inr (by simpa using e2)⟩)
    left
    have h1 := back_sts s q (k := i) (by simpa only [S.runOf, hq] using e1)
    have h2 := fore_sts (s.back q) c (k := i) (by omega) (fun q' x' l' e e' => by rw [g1] at e; cases e; rw [g2] at e'; cases e'; exact g3.1) (by rw [ht]; exact e2)
    rw [← h1, ← h2, ht]
  · split at ht
    · subst ht; exact Keeps.same hok (by simp [S.setQ]) (setQ_sts _ _ _)
    · subst ht; exact Keeps.rfl' h _ _
theorem S.Ok.keeps_steal {s : S} (h : s.Ok) {c : Nat} {n : Int} (hc : c < s.cpus.length) : Keeps s (s.steal c) 8 n := by
  have hok := h.steal hc
  generalize ht : s.steal c = t at hok ⊢
  unfold S.steal at ht
  split at ht
  · subst ht; exact Keeps.rfl' h _ _
  · rename_i hl
    have hf : s.full < s.cpus.length := fullF_lt _ _ _ _ _ (by have := h.c1; omega) (by omega)
    obtain ⟨q, hq⟩ := at_lt hf
    have hlo : s.loadOf s.full = q.load := by simp only [S.loadOf, hq]
    obtain ⟨x, l, hx⟩ : ∃ x l, q.ready = x :: l := by
      refine List.exists_cons_of_length_pos ?_
      rw [hlo] at hl
      unfold Q.load at hl
      split at hl <;> omega
    have hfr : s.frontOf s.full = x := by simp only [S.frontOf, hq, hx]
    obtain ⟨i, ti, rfl, hti, _, hst⟩ := S.is_thr ((h.rdy _ q hq).1 x (by simp [hx]))
    rw [hfr] at ht
    simp only [Int.toNat_natCast] at ht
    have e : ((s.take i).setCpu i c).sts = s.sts := by rw [setCpu_sts, take_sts]
    subst ht
    refine Keeps.same hok (by rw [put_cpl, setCpu_cpl, take_len]) ?_
    rcases put_sts ((s.take i).setCpu i c) i false with e' | e' <;> rw [e', e]
    apply List.ext_getElem?
    intro k
    rw [List.getElem?_set]
    split
    · rename_i hk
      subst hk
      rw [sts_at hti, hst]
      have := (List.getElem?_eq_some_iff.1 hti).1
      simp [sts_len, this]
    · rfl
theorem S.Ok.keeps {s : S} (h : s.Ok) (k n p : Int) : Keeps s (s.done k n p) k n := by
  unfold S.done
  rw [if_pos ((valid_iff s).2 h)]
  cases hr : (s.op k n p).1 with
  | none => exact Keeps.rfl' h _ _
  | some t =>
    simp only [Option.getD_some]
    unfold S.op at hr
    by_cases k0 : k = 0
    · subst k0
      simp only [if_true, S.eAdd] at hr
      cases hq : s.cp n with
      | none => rw [hq] at hr; cases hr
      | some q =>
        rw [hq] at hr
        obtain ⟨c, rfl, hq⟩ := S.cp_some hq
        simp only at hr
        split at hr
        · rename_i hg
          cases hr
          have hok := h.more hg.1 hq hg.2
          have e1 : ((s.more p c).put s.thr.length false).thr.length = s.thr.length + 1 := by
            have := put_sts_len (s.more p c) s.thr.length false
            rw [sts_len, sts_len] at this
            rw [this]; simp [S.more]
          refine ⟨hok, by rw [put_cpl]; rfl, by omega, by omega, fun i hi => .inl ?_⟩
          rw [put_sts_ne _ _ _ (by omega)]
          simp only [S.sts, S.more, List.map_append]
          rw [List.getElem?_append_left (by simpa using hi)]
        · cases hr
    rw [if_neg k0] at hr
    by_cases k1 : k = 1
    · subst k1
      simp only [if_true, S.eEnd] at hr
      cases ht : s.th n with
      | none => rw [ht] at hr; cases hr
      | some t1 =>
        rw [ht] at hr
        obtain ⟨i, rfl, ht⟩ := S.th_some ht
        simp only [Int.toNat_natCast] at hr
        split at hr
        · cases hr
          exact Keeps.one (h.leave ht (.inr rfl)) (by rw [setSt_cpl, take_len]) (by rw [setSt_sts, take_sts]; simp) (by decide) (fun j hj => by rw [setSt_sts, take_sts, List.getElem?_set_ne (by omega)])
        · cases hr
    rw [if_neg k1] at hr
    by_cases k2 : k = 2
    · subst k2
      simp only [if_true, S.eBlock] at hr
      cases ht : s.th n with
      | none => rw [ht] at hr; cases hr
      | some t1 =>
        rw [ht] at hr
        obtain ⟨i, rfl, ht⟩ := S.th_some ht
        simp only [Int.toNat_natCast] at hr
        split at hr
        · cases hr
          exact Keeps.one (h.leave ht (.inl rfl)) (by rw [setSt_cpl, take_len]) (by rw [setSt_sts, take_sts]; simp) (by decide) (fun j hj => by rw [setSt_sts, take_sts, List.getElem?_set_ne (by omega)])
        · cases hr
    rw [if_neg k2] at hr
    by_cases k3 : k = 3
    · subst k3
      simp only [if_true, S.eWake] at hr
      cases ht : s.th n with
      | none => rw [ht] at hr; cases hr
      | some t1 =>
        rw [ht] at hr
        obtain ⟨i, rfl, ht⟩ := S.th_some ht
        simp only [Int.toNat_natCast] at hr
        split at hr
        · rename_i hs
          cases hr
          exact Keeps.one (h.wake ht (by simpa using hs) _) (put_cpl _ _ _) (put_sts_len _ _ _) (by decide) (fun j hj => put_sts_ne _ _ _ hj)
        · cases hr
    rw [if_neg k3] at hr
    by_cases k4 : k = 4
    · subst k4
      simp only [if_true, S.eSetPri] at hr
      cases ht : s.th n with
      | none => rw [ht] at hr; cases hr
      | some t1 =>
        rw [ht] at hr
        obtain ⟨i, rfl, ht⟩ := S.th_some ht
        simp only [Int.toNat_natCast] at hr
        split at hr
        · rename_i hs
          split at hr
          · cases hr
            exact Keeps.one (h.rePri ht hs.2) (by rw [put_cpl, setPri_cpl, take_len]) (by rw [put_sts_len, setPri_sts, take_sts]) (by decide) (fun j hj => by rw [put_sts_ne _ _ _ hj, setPri_sts, take_sts])
          · rename_i hne
            cases hr
            exact Keeps.same (h.setPri ht hne hs.2) (by rw [setPri_cpl]) (setPri_sts _ _ _)
        · cases hr
    rw [if_neg k4] at hr
    by_cases k5 : k = 5
    · subst k5
      simp only [if_true] at hr
      cases hq : s.cp n with
      | none => rw [hq] at hr; cases hr
      | some q =>
        rw [hq] at hr
        obtain ⟨c, rfl, hq⟩ := S.cp_some hq
        cases hr
        exact h.keeps_sw hq
    rw [if_neg k5] at hr
    by_cases k6 : k = 6
    · subst k6
      simp only [if_true] at hr
      cases hq : s.cp n with
      | none => rw [hq] at hr; cases hr
      | some q =>
        rw [hq] at hr
        obtain ⟨c, rfl, hq2⟩ := S.cp_some hq
        cases hr
        have := h.tick c
        simp only [Int.toNat_natCast]
        have e : s.tick c = s.setQ c { q with left := if 0 > q.left - 1 then 0 else q.left - 1 } := by simp only [S.tick, hq2]
        rw [e] at this ⊢
        exact Keeps.same this (by simp [S.setQ]) (setQ_sts _ _ _)
    rw [if_neg k6] at hr
    by_cases k7 : k = 7
    · subst k7
      simp only [if_true, S.eYield] at hr
      cases hq : s.cp n with
      | none => rw [hq] at hr; cases hr
      | some q =>
        rw [hq] at hr
        obtain ⟨c, rfl, hq⟩ := S.cp_some hq
        simp only [Int.toNat_natCast] at hr
        split at hr
        · cases hr
          exact Keeps.same (h.yield hq) (by simp [S.setQ]) (setQ_sts _ _ _)
        · cases hr
    rw [if_neg k7] at hr
    by_cases k8 : k = 8
    · subst k8
      simp only [if_true] at hr
      cases hq : s.cp n with
      | none => rw [hq] at hr; cases hr
      | some q =>
        rw [hq] at hr
        obtain ⟨c, rfl, hq⟩ := S.cp_some hq
        cases hr
        exact h.keeps_steal (List.getElem?_eq_some_iff.1 hq).1
    rw [if_neg k8] at hr
    cases hr
end Go.Proofs.Ytljepmbikbdicaa

set_option maxRecDepth 100000
set_option linter.unusedVariables false
set_option linter.unusedSimpArgs false
namespace Go.Proofs.Ytljepmbikbdicaa
open Go.AM
theorem loadOf_at {s : S} {c : Nat} {q : Q} (hq : s.cpus[c]? = some q) : s.loadOf c = q.load := by simp only [S.loadOf, hq]
theorem loadOf_congr {s t : S} {c : Nat} (h : t.cpus[c]? = s.cpus[c]?) : t.loadOf c = s.loadOf c := by simp only [S.loadOf, h]
theorem load_cases (q : Q) : (0 ≤ q.run ∧ q.load = q.ready.length + 1) ∨ (q.run < 0 ∧ q.load = q.ready.length) := by
  unfold Q.load
  by_cases h : 0 ≤ q.run
  · rw [if_pos h]; exact .inl ⟨h, rfl⟩
  · rw [if_neg h]; exact .inr ⟨by omega, by omega⟩
/-- A switch leaves the loads. -/
theorem S.Ok.sw_load {s : S} (h : s.Ok) {c : Nat} {q : Q} (hq : s.cpus[c]? = some q) : ∃ q', (s.sw c).cpus[c]? = some q' ∧ q'.load = q.load ∧ (q'.run = -1 → q'.ready = []) ∧ (∀ d : Nat, d ≠ c → (s.sw c).cpus[d]? = s.cpus[d]?) ∧ (s.sw c).cpus.length = s.cpus.length := by
  have hlc := (List.getElem?_eq_some_iff.1 hq).1
  by_cases hd : s.due c = true
  · by_cases hr : q.run = -1
    · obtain ⟨x, l, g1, g2⟩ := h.sw_due hq hd
      have hid : s.idle q = s := by rw [S.idle, if_neg (by omega)]
      rw [hid] at g1 g2
      obtain ⟨i, t, rfl, ht, htc, hts, h4⟩ := h.fore_at g1
      rw [hq] at g1
      cases g1
      rw [g2, h4]
      refine ⟨_, setQ_self hlc, ?_, fun e => by dsimp only at e; omega, fun d hdc => setQ_ne hdc, by simp [S.setQ, S.modT]⟩
      have a := load_cases ⟨i, s.quantum, l⟩
      have b := load_cases ⟨-1, 0, (i : Int) :: l⟩
      simp only [List.length_cons] at a b
      omega
    · obtain ⟨i, t, a, b, x, hi, ht, htc, hrd, hcx, _, _, hlen, _, _, hne, j, tj, rfl, _⟩ := h.swap hq hd hr
      refine ⟨_, hcx, ?_, fun e => by dsimp only at e; omega, hne, hlen⟩
      have a1 := load_cases ⟨j, s.quantum, a ++ (i : Int) :: b⟩
      have b1 := load_cases q
      rw [hrd] at b1
      simp only [List.length_cons, List.length_append, List.cons_append] at a1 b1
      omega
  · have hd' : s.due c = false := by simpa using hd
    have hcalm := (h.calm hq hd').1
    have hsw : s.sw c = if 0 ≤ q.run ∧ q.left = 0 then s.setQ c { q with left := s.quantum } else s := by simp only [S.sw, hq, if_neg hd]
    rw [hsw]
    split
    · exact ⟨_, setQ_self hlc, rfl, hcalm, fun d hdc => setQ_ne hdc, by simp [S.setQ]⟩
    · exact ⟨q, hq, rfl, hcalm, fun _ _ => rfl, rfl⟩
theorem fullF_max (s : S) : ∀ (l : List Q) (i b : Nat), s.cpus.drop i = l → (∀ d, d < i → s.loadOf d ≤ s.loadOf b) → ∀ d, d < s.cpus.length → s.loadOf d ≤ s.loadOf (fullF l i b (s.loadOf b))
  | [], i, b, hl, hb, d, hd => by
    simp only [fullF]
    refine hb d ?_
    have := congrArg List.length hl
    simp at this
    omega
  | q :: l, i, b, hl, hb, d, hd => by
    have hq : s.cpus[i]? = some q := by
      have : (s.cpus.drop i)[0]? = some q := by rw [hl]; rfl
      simpa using this
    have hl' : s.cpus.drop (i + 1) = l := by
      rw [← List.drop_drop, hl]; rfl
    have he := loadOf_at hq
    simp only [fullF]
    split
    · rename_i hg
      rw [← he]
      exact fullF_max s l (i + 1) i hl' (fun e h => by
        rcases Nat.lt_or_ge e i with h1 | h1
        · have := hb e h1; omega
        · obtain rfl : e = i := by omega
          exact Int.le_refl _) d hd
    · rename_i hg
      exact fullF_max s l (i + 1) b hl' (fun e h => by
        rcases Nat.lt_or_ge e i with h1 | h1
        · exact hb e h1
        · obtain rfl : e = i := by omega
          omega) d hd
theorem S.full_max (s : S) {d : Nat} (hd : d < s.cpus.length) : s.loadOf d ≤ s.loadOf s.full := fullF_max s s.cpus 0 0 rfl (fun e h => absurd h (Nat.not_lt_zero _)) d hd
/-- What stealing does to the loads. -/
theorem S.Ok.steal_load {s : S} (h : s.Ok) {c : Nat} (hc : c < s.cpus.length) : ((0 < s.loadOf c ∨ s.loadOf s.full < 2) ∧ s.steal c = s) ∨
    (s.loadOf c ≤ 0 ∧ 2 ≤ s.loadOf s.full ∧ s.full < s.cpus.length ∧ (s.steal c).cpus.length = s.cpus.length ∧ 0 < (s.steal c).loadOf c ∧ 0 < (s.steal c).loadOf s.full ∧ ∀ d : Nat, d ≠ c → d ≠ s.full → (s.steal c).loadOf d = s.loadOf d) := by
  by_cases hl : s.loadOf c > 0 ∨ s.loadOf s.full < 2
  · exact .inl ⟨hl, by rw [S.steal, if_pos hl]⟩
  · right
    have hst : s.steal c = ((s.take (s.frontOf s.full).toNat).setCpu (s.frontOf s.full).toNat c).put (s.frontOf s.full).toNat false := by rw [S.steal, if_neg hl]
    have hf : s.full < s.cpus.length := fullF_lt _ _ _ _ _ (by have := h.c1; omega) (by omega)
    obtain ⟨q, hq⟩ := at_lt hf
    have hlo := loadOf_at hq
    have hlc := load_cases q
    obtain ⟨x, l, hx⟩ : ∃ x l, q.ready = x :: l := List.exists_cons_of_length_pos (by omega)
    have hfr : s.frontOf s.full = x := by simp only [S.frontOf, hq, hx]
    obtain ⟨i, t, rfl, ht, htc, hts⟩ := S.is_thr ((h.rdy _ q hq).1 x (by simp [hx]))
    have hne : s.full ≠ c := fun e => by rw [e] at hl; omega
    have hrun : q.run ≠ i := fun e => by
      have h2 := (h.run _ q hq).resolve_left (by omega)
      have := (is_cpu h2.1 (e ▸ is_of ht)).2
      omega
    have hcc : t.cpu.toNat = s.full := by omega
    have htk : s.take i = s.setQ s.full ⟨q.run, q.left, l⟩ := by
      rw [S.take_eq ht (by rw [hcc]; exact hq), hcc]
      simp [Q.out, hrun, hx]
    rw [hfr, Int.toNat_natCast, htk] at hst
    have ht2 : (s.setQ s.full ⟨q.run, q.left, l⟩).thr[i]? = some t := ht
    rw [S.setCpu_eq ht2] at hst
    obtain ⟨q2, hq2⟩ := at_lt hc
    have hti : i < s.thr.length := (List.getElem?_eq_some_iff.1 ht).1
    generalize hu : ({ s.setQ s.full ⟨q.run, q.left, l⟩ with thr := (s.setQ s.full ⟨q.run, q.left, l⟩).thr.set i { t with cpu := c } } : S) = u at hst
    have hucp : ∀ d : Nat, u.cpus[d]? = (s.setQ s.full ⟨q.run, q.left, l⟩).cpus[d]? := fun d => by rw [← hu]
    have hut : u.thr[i]? = some { t with cpu := c } := by rw [← hu]; simp [S.setQ, hti]
    have huq : u.cpus[(c : Int).toNat]? = some q2 := by rw [Int.toNat_natCast, hucp, setQ_ne (by omega)]; exact hq2
    rw [S.put_eq hut huq] at hst
    have hul : u.cpus.length = s.cpus.length := by rw [← hu]; simp [S.setQ]
    have hcp : ∀ d : Nat, (s.steal c).cpus[d]? = if d = c then some { q2 with ready := ins q2.ready (idxF (u.below t.pri false) q2.ready 0) i } else u.cpus[d]? := by
      intro d
      rw [hst]
      simp only [Int.toNat_natCast]
      rw [List.getElem?_set]
      by_cases hd : d = c
      · subst hd; simp [hul, hc]
      · simp [hd, show c ≠ d from fun e => hd e.symm]
    refine ⟨by omega, by omega, hf, by rw [hst]; simp [hul], ?_, ?_, ?_⟩
    · have h3 := hcp c
      rw [if_pos rfl] at h3
      rw [loadOf_at h3]
      have h4 := load_cases { q2 with ready := ins q2.ready (idxF (u.below t.pri false) q2.ready 0) i }
      have h5 : 0 < (ins q2.ready (idxF (u.below t.pri false) q2.ready 0) i).length := by
        unfold ins
        split <;> simp <;> omega
      simp only at h4
      omega
    · have h3 := hcp s.full
      rw [if_neg hne, hucp, setQ_self hf] at h3
      rw [loadOf_at h3]
      have h4 := load_cases ⟨q.run, q.left, l⟩
      rw [hx] at hlc
      simp only [List.length_cons] at h4 hlc
      omega
    · intro d h1 h2
      refine loadOf_congr ?_
      rw [hcp, if_neg h1, hucp, setQ_ne h2]
theorem load_nn (s : S) (c : Nat) : 0 ≤ s.loadOf c := by
  unfold S.loadOf
  split
  · rename_i q _
    have := load_cases q
    omega
  · decide
/-- Behind the first steals. -/
def S.Fed (s : S) (i : Nat) : Prop := ∀ c, c < i → s.loadOf c = 0 → ∀ d, d < s.cpus.length → s.loadOf d < 2
theorem S.Ok.fed {s : S} (h : s.Ok) {i : Nat} (hi : i < s.cpus.length) (hf : s.Fed i) : (s.steal i).Fed (i + 1) := by
  rcases h.steal_load hi with ⟨h1, h2⟩ | ⟨h1, h2, h3, h4, h5, h6, h7⟩
  · rw [h2]
    intro c hc h0 d hd
    by_cases e : c = i
    · subst e
      have := s.full_max hd
      omega
    · exact hf c (by omega) h0 d hd
  · intro c hc h0 d hd
    exfalso
    have e1 : c ≠ i := fun e => by subst e; omega
    have e2 : c ≠ s.full := fun e => by subst e; omega
    rw [h7 c e1 e2] at h0
    have := hf c (by omega) h0 _ h3
    omega
/-- Behind the first switches. -/
def S.Set (s : S) (i : Nat) : Prop := s.Fed s.cpus.length ∧ ∀ (c : Nat) q, c < i → s.cpus[c]? = some q → q.run = -1 → q.ready = []
theorem S.Ok.set {s : S} (h : s.Ok) {i : Nat} (hi : i < s.cpus.length) (hf : s.Set i) : (s.sw i).Set (i + 1) := by
  obtain ⟨q, hq⟩ := at_lt hi
  obtain ⟨q', g1, g2, g3, g4, g5⟩ := h.sw_load hq
  have hl : ∀ d : Nat, (s.sw i).loadOf d = s.loadOf d := fun d => by
    by_cases e : d = i
    · subst e; rw [loadOf_at g1, loadOf_at hq, g2]
    · exact loadOf_congr (g4 d e)
  refine ⟨fun c hc h0 d hd => ?_, fun c q2 hc hq2 hr => ?_⟩
  · rw [hl] at h0 ⊢
    rw [g5] at hc hd
    exact hf.1 c hc h0 d hd
  · by_cases e : c = i
    · subst e
      rw [g1] at hq2
      cases hq2
      exact g3 hr
    · rw [g4 c e] at hq2
      exact hf.2 c q2 (by omega) hq2 hr
theorem S.Set.ends {s : S} (h : s.Set s.cpus.length) {c d : Nat} {q r : Q} (hq : s.cpus[c]? = some q) (hr : s.cpus[d]? = some r) (hi : q.run = -1) (hm : 0 < r.ready.length) (hrun : r.run = -1 ∨ 0 ≤ r.run) : False := by
  have hlc := (List.getElem?_eq_some_iff.1 hq).1
  have hld := (List.getElem?_eq_some_iff.1 hr).1
  have he := h.2 c q hlc hq hi
  have h0 : s.loadOf c = 0 := by
    rw [loadOf_at hq]
    have := load_cases q
    rw [he] at this
    simp at this
    omega
  have h1 := h.1 c hlc h0 d hld
  rw [loadOf_at hr] at h1
  have := load_cases r
  rcases hrun with e | e
  · have := h.2 d r hld hr e
    rw [this] at hm
    simp at hm
  · omega
end Go.Proofs.Ytljepmbikbdicaa

set_option maxRecDepth 100000
set_option linter.unusedVariables false
set_option linter.unusedSimpArgs false
namespace Go.Proofs.Ytljepmbikbdicaa
open Go.AM
structure O where
  k : Int
  n : Int
  p : Int
def O.row (o : O) : List AV := [iv o.k, iv o.n, iv o.p]
def S.by (s : S) (o : O) : S := s.done o.k o.n o.p
theorem by_c (s : S) (o : O) : ACalls Try.prog 41 [s.av, .agg o.row] [] (fun x H => x = .ret (s.by o).av ∧ H = []) := done_c s o.k o.n o.p
theorem places_c (s : S) (l : List O) : ACalls Try.prog 10 [s.av, .view false 3 (l.map O.row)] [] (fun o H => o = .ret (.bool true) ∧ H = []) := by
  refine ACalls.small fun hsm => ?_
  simp only [S.av, smallL, AV.small, List.length_map, maxLen] at hsm
  refine ACalls.up ?_
  refine ACalls.intro (cs := []) (n := 146) Try.func10 rfl rfl rfl (by kernel_rfl) rfl ?_
  have fin : ∀ b H, b = true → Up 0 (fun (o : Out) (H : Heap) => o = Out.ret (.bool true) ∧ H = []) (.ret (.bool b)) H := fun b H e => by subst e; exact up_bool ⟨rfl, rfl⟩
  generalize (fun (o : Out) (H : Heap) => o = Out.ret (.bool true) ∧ H = []) = post at fin ⊢
  simp only [go_sem, Nat.reduceAdd, Nat.reduceSub, Nat.reduceMul, Nat.reduceEqDiff, Nat.reduceLeDiff, Nat.reduceLT, ↓reduceIte, Int.reduceToNat, reduceCtorEq, S.av]
  refine rK_use (enters_of Try.func13 rfl (by decide)) (ACalls.pure_use (sane_c) rfl rfl) ?_
  simp only [go_sem, Nat.reduceAdd, Nat.reduceSub, Nat.reduceMul, Nat.reduceEqDiff, Nat.reduceLeDiff, Nat.reduceLT, ↓reduceIte, Int.reduceToNat, reduceCtorEq]
  refine rK_use (enters_of Try.func16 rfl (by decide)) (ACalls.pure_use (Check_c s) rfl rfl) ?_
  refine Decidable.byCases (p := s.valid = true) (fun hv => ?_) (fun hv => ?_)
  rotate_left
  · rw [if_neg hv]
    simp only [go_sem, Nat.reduceAdd, Nat.reduceSub, Nat.reduceMul, Nat.reduceEqDiff, Nat.reduceLeDiff, Nat.reduceLT, ↓reduceIte, Int.reduceToNat, reduceCtorEq, Int.cast_ofNat_Int, Int.reduceLT, Int.reduceLE, Int.reduceGT, Int.reduceGE, Int.reduceEq, Int.reduceNe, Int.reduceNeg, Int.reduceAdd, Int.reduceSub, Int.le_refl]
    exact fin _ _ rfl
  rw [if_pos hv]
  have hok := (valid_iff s).1 hv
  simp only [go_sem, Nat.reduceAdd, Nat.reduceSub, Nat.reduceMul, Nat.reduceEqDiff, Nat.reduceLeDiff, Nat.reduceLT, ↓reduceIte, Int.reduceToNat, reduceCtorEq, Int.cast_ofNat_Int, Int.reduceLT, Int.reduceLE, Int.reduceGT, Int.reduceGE, Int.reduceEq, Int.reduceNe, Int.reduceNeg, Int.reduceAdd, Int.reduceSub, Int.le_refl, List.length_map]
  refine condD_dec (fun h60 => ?_) (fun h60 => ?_)
  · simp only [go_sem, Nat.reduceAdd, Nat.reduceSub, Nat.reduceMul, Nat.reduceEqDiff, Nat.reduceLeDiff, Nat.reduceLT, ↓reduceIte, Int.reduceToNat, reduceCtorEq, Int.cast_ofNat_Int, Int.reduceLT, Int.reduceLE, Int.reduceGT, Int.reduceGE, Int.reduceEq, Int.reduceNe, Int.reduceNeg, Int.reduceAdd, Int.reduceSub, Int.le_refl]
    exact fin _ _ rfl
  simp only [go_sem, Nat.reduceAdd, Nat.reduceSub, Nat.reduceMul, Nat.reduceEqDiff, Nat.reduceLeDiff, Nat.reduceLT, ↓reduceIte, Int.reduceToNat, reduceCtorEq, Int.cast_ofNat_Int, Int.reduceLT, Int.reduceLE, Int.reduceGT, Int.reduceGE, Int.reduceEq, Int.reduceNe, Int.reduceNeg, Int.reduceAdd, Int.reduceSub, Int.le_refl]
  refine loop_fam (fun x : Nat × S => ((Ch.nil.put 1 (.view false 3 (l.map O.row))).put 2 (.ptr 0 0 0)).put 6 (iv x.1)) (fun x => [.rows 3 [[.view false 3 (x.2.cpus.map Q.row), .view false 3 (x.2.thr.map T.row), iv x.2.quantum]]])
    (fun x => l.length - x.1) (fun x => x.1 ≤ l.length ∧ x.2.Ok) (0, s) (by kernel_rfl) ⟨Nat.zero_le _, hok⟩ (Wk.slots' rfl (by simp [wkS, Ch.get])) ?_
  rintro ⟨i, u⟩ ⟨hi, hu⟩ K hK
  simp only at hi hu
  simp only [go_sem, Nat.reduceAdd, Nat.reduceSub, Nat.reduceMul, Nat.reduceEqDiff, Nat.reduceLeDiff, Nat.reduceLT, ↓reduceIte, Int.reduceToNat, reduceCtorEq, Int.cast_ofNat_Int, Int.reduceLT, Int.reduceLE, Int.reduceGT, Int.reduceGE, Int.reduceEq, Int.reduceNe, Int.reduceNeg, Int.reduceAdd, Int.reduceSub, Int.le_refl, List.length_map]
  refine condD_dec (fun hg => ?_) (fun hg => ?_)
  rotate_left
  · simp only [go_sem, Nat.reduceAdd, Nat.reduceSub, Nat.reduceMul, Nat.reduceEqDiff, Nat.reduceLeDiff, Nat.reduceLT, ↓reduceIte, Int.reduceToNat, reduceCtorEq, Int.cast_ofNat_Int, Int.reduceLT, Int.reduceLE, Int.reduceGT, Int.reduceGE, Int.reduceEq, Int.reduceNe, Int.reduceNeg, Int.reduceAdd, Int.reduceSub, Int.le_refl]
    exact fin _ _ rfl
  have hi' : i < l.length := by omega
  obtain ⟨o, ho⟩ := at_lt hi'
  have hkp := hu.keeps o.k o.n o.p
  have hby := by_c u o
  have hu16 := hu.t16
  rw [show u.done o.k o.n o.p = u.by o from rfl] at hkp
  simp only [go_sem, Nat.reduceAdd, Nat.reduceSub, Nat.reduceMul, Nat.reduceEqDiff, Nat.reduceLeDiff, Nat.reduceLT, ↓reduceIte, Int.reduceToNat, reduceCtorEq, Int.cast_ofNat_Int, Int.reduceLT, Int.reduceLE, Int.reduceGT, Int.reduceGE, Int.reduceEq, Int.reduceNe, Int.reduceNeg, Int.reduceAdd, Int.reduceSub, Int.le_refl]
  refine draw [.rd 0 1, .qu 0 1, .qu 0 1, .rd 0 1, .rd 0 1, .qu 0 1, .mn 0, .mn 1] (by kernel_rfl) (by kernel_rfl) ?_
  simp only [go_sem, Nat.reduceAdd, Nat.reduceSub, Nat.reduceMul, Nat.reduceEqDiff, Nat.reduceLeDiff, Nat.reduceLT, ↓reduceIte, Int.reduceToNat, reduceCtorEq, Int.cast_ofNat_Int, Int.reduceLT, Int.reduceLE, Int.reduceGT, Int.reduceGE, Int.reduceEq, Int.reduceNe, Int.reduceNeg, Int.reduceAdd, Int.reduceSub, Int.le_refl, List.length_map, List.getElem?_map, ho, hg, hi', Int.natCast_nonneg, O.row, true_and]
  generalize u.by o = t at hkp hby
  refine y_call (enters_of Try.func41 rfl (by decide)) (fun _ => ACalls.pure_use (hby) rfl rfl) ?_
  simp only [go_sem, Nat.reduceAdd, Nat.reduceSub, Nat.reduceMul, Nat.reduceEqDiff, Nat.reduceLeDiff, Nat.reduceLT, ↓reduceIte, Int.reduceToNat, reduceCtorEq, Int.cast_ofNat_Int, Int.reduceLT, Int.reduceLE, Int.reduceGT, Int.reduceGE, Int.reduceEq, Int.reduceNe, Int.reduceNeg, Int.reduceAdd, Int.reduceSub, Int.le_refl, S.av]
  refine ⟨⟨⟨by omega, by simpa using hg⟩, by simp [ho, O.row]⟩, ?_⟩
  have hvt := (valid_iff t).2 hkp.ok
  have hchk := Check_c t
  rw [if_pos hvt] at hchk
  have g1 := hkp.cl
  have g2 := hkp.tl
  have g3 := hkp.tu
  have e0 : iw .i64 ((u.thr.length : Int) + 1) = u.thr.length + 1 := by rw [iw64] <;> omega
  have g4 : ¬ (t.thr.length : Int) < u.thr.length := by omega
  have g5 : ¬ (u.thr.length : Int) + 1 < t.thr.length := by omega
  refine rK_use (enters_of Try.func16 rfl (by decide)) (ACalls.pure_use (hchk) rfl rfl) ?_
  simp only [go_sem, Nat.reduceAdd, Nat.reduceSub, Nat.reduceMul, Nat.reduceEqDiff, Nat.reduceLeDiff, Nat.reduceLT, ↓reduceIte, Int.reduceToNat, reduceCtorEq, Int.cast_ofNat_Int, Int.reduceLT, Int.reduceLE, Int.reduceGT, Int.reduceGE, Int.reduceEq, Int.reduceNe, Int.reduceNeg, Int.reduceAdd, Int.reduceSub, Int.le_refl, List.length_map, g1, g4, e0, g5]
  refine loop_fam (fun k : Nat => (((((Ch.nil.put 1 (.view false 3 (l.map O.row))).put 2 (.ptr 0 0 0)).put 6 (iv i)).put 7 (.ptr 1 0 0)).put 8 (iv k))) (fun _ => [.rows 3 [[.view false 3 (u.cpus.map Q.row), .view false 3 (u.thr.map T.row), iv u.quantum]], .rows 3 [[.view false 3 (t.cpus.map Q.row), .view false 3 (t.thr.map T.row), iv t.quantum]]])
    (fun k => u.thr.length - k) (fun k => k ≤ u.thr.length) 0 (by kernel_rfl) (Nat.zero_le _) (Wk.slots' rfl (by simp [wkS, Ch.get])) ?_
  rintro k hk K2 hK2
  simp only [go_sem, Nat.reduceAdd, Nat.reduceSub, Nat.reduceMul, Nat.reduceEqDiff, Nat.reduceLeDiff, Nat.reduceLT, ↓reduceIte, Int.reduceToNat, reduceCtorEq, Int.cast_ofNat_Int, Int.reduceLT, Int.reduceLE, Int.reduceGT, Int.reduceGE, Int.reduceEq, Int.reduceNe, Int.reduceNeg, Int.reduceAdd, Int.reduceSub, Int.le_refl, List.length_map]
  refine condD_dec (fun hg2 => ?_) (fun hg2 => ?_)
  rotate_left
  · have e1 : iw .i64 ((i : Int) + 1) = ((i + 1 : Nat) : Int) := by rw [iw64] <;> omega
    simp only [go_sem, Nat.reduceAdd, Nat.reduceSub, Nat.reduceMul, Nat.reduceEqDiff, Nat.reduceLeDiff, Nat.reduceLT, ↓reduceIte, Int.reduceToNat, reduceCtorEq, Int.cast_ofNat_Int, Int.reduceLT, Int.reduceLE, Int.reduceGT, Int.reduceGE, Int.reduceEq, Int.reduceNe, Int.reduceNeg, Int.reduceAdd, Int.reduceSub, Int.le_refl, e1]
    exact hK (i + 1, t) _ _ ⟨hi', hkp.ok⟩ (by dsimp only; omega) (Wk.drop (m := 1) (by simp [wkS, Ch.get]) (by decide) (by simp) (by simp [chLt, AV.lt]) rfl (by simp [Blk.lt, ltL, AV.lt]))
  have hk' : k < u.thr.length := by omega
  have hk2 : k < t.thr.length := by omega
  have hk3 : (k : Int) < t.thr.length := by omega
  obtain ⟨tu, htu⟩ := at_lt hk'
  obtain ⟨tt, htt⟩ := at_lt hk2
  have e1 : iw .i64 ((k : Int) + 1) = ((k + 1 : Nat) : Int) := by rw [iw64] <;> omega
  have hst := hkp.st k hk'
  rw [sts_at htu, sts_at htt] at hst
  simp only [go_sem, Nat.reduceAdd, Nat.reduceSub, Nat.reduceMul, Nat.reduceEqDiff, Nat.reduceLeDiff, Nat.reduceLT, ↓reduceIte, Int.reduceToNat, reduceCtorEq, Int.cast_ofNat_Int, Int.reduceLT, Int.reduceLE, Int.reduceGT, Int.reduceGE, Int.reduceEq, Int.reduceNe, Int.reduceNeg, Int.reduceAdd, Int.reduceSub, Int.le_refl]
  refine draw [.qu 0 0, .qu 0 0, .qu 0 0, .qu 0 0, .qu 0 0, .qu 0 0, .qu 0 0, .qu 0 0, .qu 0 0, .qu 0 0, .qu 0 0, .qu 0 0, .qu 0 0, .qu 0 0, .qu 0 0, .qu 0 0, .qu 0 0, .qu 0 0, .qu 0 0, .qu 0 0, .qu 0 0, .qu 0 0, .qu 0 0, .qu 0 0, .qu 0 0, .qu 0 0, .qu 0 0, .qu 0 0, .qu 0 0, .qu 0 0, .qu 0 0, .qu 0 0, .qu 0 0, .qu 0 0, .qu 0 0, .qu 0 0, .qu 0 0, .qu 0 0] (by kernel_rfl) (by kernel_rfl) ?_
  simp only [go_sem, Nat.reduceAdd, Nat.reduceSub, Nat.reduceMul, Nat.reduceEqDiff, Nat.reduceLeDiff, Nat.reduceLT, ↓reduceIte, Int.reduceToNat, reduceCtorEq, Int.cast_ofNat_Int, Int.reduceLT, Int.reduceLE, Int.reduceGT, Int.reduceGE, Int.reduceEq, Int.reduceNe, Int.reduceNeg, Int.reduceAdd, Int.reduceSub, Int.le_refl, List.length_map, List.getElem?_map, ho, hg, hi', Int.natCast_nonneg, O.row, true_and, htu, htt, hk', hk2, hk3, hg2, T.row]
  refine dG_dec (fun hs => ?_) (fun hs => ?_)
  · simp only [go_sem, Nat.reduceAdd, Nat.reduceSub, Nat.reduceMul, Nat.reduceEqDiff, Nat.reduceLeDiff, Nat.reduceLT, ↓reduceIte, Int.reduceToNat, reduceCtorEq, Int.cast_ofNat_Int, Int.reduceLT, Int.reduceLE, Int.reduceGT, Int.reduceGE, Int.reduceEq, Int.reduceNe, Int.reduceNeg, Int.reduceAdd, Int.reduceSub, Int.le_refl, hs, e1]
    exact hK2 (k + 1) _ _ hk' (by omega) (Wk.slots' rfl (by simp [wkS, Ch.get]))
  have hne : ¬ (some tt.st = some tu.st) := by simpa using hs
  rcases hst.resolve_left hne with ⟨f1, f2, f3⟩ | ⟨f1, f2, f3, f4⟩
  · simp only [go_sem, Nat.reduceAdd, Nat.reduceSub, Nat.reduceMul, Nat.reduceEqDiff, Nat.reduceLeDiff, Nat.reduceLT, ↓reduceIte, Int.reduceToNat, reduceCtorEq, Int.cast_ofNat_Int, Int.reduceLT, Int.reduceLE, Int.reduceGT, Int.reduceGE, Int.reduceEq, Int.reduceNe, Int.reduceNeg, Int.reduceAdd, Int.reduceSub, Int.le_refl, List.length_map, List.getElem?_map, ho, hg, hi', Int.natCast_nonneg, O.row, hs, f1, f2, f3, e1]
    exact hK2 (k + 1) _ _ hk' (by omega) (Wk.slots' rfl (by simp [wkS, Ch.get]))
  · have n1 : o.n < t.cpus.length := by omega
    have n2 : o.n.toNat < u.cpus.length := by omega
    have n3 : o.n.toNat < t.cpus.length := by omega
    obtain ⟨qu, hqu⟩ := at_lt n2
    obtain ⟨qt, hqt⟩ := at_lt n3
    simp only [S.runOf, hqu, hqt] at f4
    simp only [go_sem, Nat.reduceAdd, Nat.reduceSub, Nat.reduceMul, Nat.reduceEqDiff, Nat.reduceLeDiff, Nat.reduceLT, ↓reduceIte, Int.reduceToNat, reduceCtorEq, Int.cast_ofNat_Int, Int.reduceLT, Int.reduceLE, Int.reduceGT, Int.reduceGE, Int.reduceEq, Int.reduceNe, Int.reduceNeg, Int.reduceAdd, Int.reduceSub, Int.le_refl, List.length_map, List.getElem?_map, ho, hg, hi', Int.natCast_nonneg, O.row, f1, hs]
    refine draw [.qu 0 0, .qu 0 0, .qu 0 0, .qu 0 0, .qu 0 0, .qu 0 0, .qu 0 0, .qu 0 0, .qu 0 0, .qu 0 0, .qu 0 0, .qu 0 0, .qu 0 0, .qu 0 0, .qu 0 0, .qu 0 0, .qu 0 0, .qu 0 0, .qu 0 0, .qu 0 0, .qu 0 0, .qu 0 0, .qu 0 0, .qu 0 0, .qu 0 0, .qu 0 0, .qu 0 0, .qu 0 0, .qu 0 0, .qu 0 0, .qu 0 0, .qu 0 0, .qu 0 0, .qu 0 0] (by kernel_rfl) (by kernel_rfl) ?_
    simp only [go_sem, Nat.reduceAdd, Nat.reduceSub, Nat.reduceMul, Nat.reduceEqDiff, Nat.reduceLeDiff, Nat.reduceLT, ↓reduceIte, Int.reduceToNat, reduceCtorEq, Int.cast_ofNat_Int, Int.reduceLT, Int.reduceLE, Int.reduceGT, Int.reduceGE, Int.reduceEq, Int.reduceNe, Int.reduceNeg, Int.reduceAdd, Int.reduceSub, Int.le_refl, List.length_map, List.getElem?_map, ho, hg, hi', Int.natCast_nonneg, O.row, f1, f2, f3, n1, n2, n3, hqu, hqt, Q.row, e1, true_and]
    by_cases hr : qu.run = k
    · simp only [go_sem, Nat.reduceAdd, Nat.reduceSub, Nat.reduceMul, Nat.reduceEqDiff, Nat.reduceLeDiff, Nat.reduceLT, ↓reduceIte, Int.reduceToNat, reduceCtorEq, Int.cast_ofNat_Int, Int.reduceLT, Int.reduceLE, Int.reduceGT, Int.reduceGE, Int.reduceEq, Int.reduceNe, Int.reduceNeg, Int.reduceAdd, Int.reduceSub, Int.le_refl, hr, e1, List.length_map, List.getElem?_map, ho, hg, hi', Int.natCast_nonneg, O.row, f1, f2, f3, n1, n2, n3, hqu, hqt, Q.row]
      exact hK2 (k + 1) _ _ hk' (by omega) (Wk.slots' rfl (by simp [wkS, Ch.get]))
    · have f5 := f4.resolve_left hr
      simp only [go_sem, Nat.reduceAdd, Nat.reduceSub, Nat.reduceMul, Nat.reduceEqDiff, Nat.reduceLeDiff, Nat.reduceLT, ↓reduceIte, Int.reduceToNat, reduceCtorEq, Int.cast_ofNat_Int, Int.reduceLT, Int.reduceLE, Int.reduceGT, Int.reduceGE, Int.reduceEq, Int.reduceNe, Int.reduceNeg, Int.reduceAdd, Int.reduceSub, Int.le_refl, hr, List.length_map, List.getElem?_map, ho, hg, hi', Int.natCast_nonneg, O.row, f1, f2, f3, n1, n2, n3, hqu, hqt, Q.row, e1, f5]
      exact hK2 (k + 1) _ _ hk' (by omega) (Wk.slots' rfl (by simp [wkS, Ch.get]))
end Go.Proofs.Ytljepmbikbdicaa

set_option maxRecDepth 100000
set_option linter.unusedVariables false
set_option linter.unusedSimpArgs false
namespace Go.Proofs.Ytljepmbikbdicaa
open Go.AM
open Go.ChangeShapes Go.WideShapes Go.ChangeAt Go.RowKit
theorem cells_op : Try.prog.cellsOf 58 = 3 := by kernel_rfl
theorem sh_op {xs : List AV} (h : Sh Try.prog 58 xs) : ∃ o : O, wkL xs = o.row := by
  obtain ⟨xss, rfl, hn, hp⟩ := h.struct_inv Try.underlying58
  obtain ⟨a, b, c, rfl⟩ := flat3 hn
  obtain ⟨r, hr⟩ := sh_int (hp 0 _ a rfl rfl)
  obtain ⟨l, hl⟩ := sh_int (hp 1 _ b rfl rfl)
  obtain ⟨c', hc⟩ := sh_int (hp 2 _ c rfl rfl)
  exact ⟨⟨r, l, c'⟩, by simp [wkL_app, hr, hl, hc, O.row, r1]⟩
theorem read_op {H : Type} {enc : TypeId × Value → H} {w : World} {v : Value} {d : DataW H} {p : List MemPlace} {base : Nat} (hv : Value.okWide Try.prog w .any base 58 v)
    (h : DataW.Trod enc Try.prog w 0 (fun _ => true) true 58 v d p) : ∃ o : O, VR (snapAll w) noEnv (.agg o.row) v := by
  obtain ⟨xs, h1, h2⟩ := read_agg 5 Try.underlying58 (by kernel_rfl) hv h
  obtain ⟨o, ho⟩ := sh_op h2
  refine ⟨o, ?_⟩
  have := h1.wk
  simpa [AV.wk, ho] using this
theorem read_slice {H : Type} {enc : TypeId × Value → H} {P : Program} {w : World} {t e : TypeId} {v : Value} {d : DataW H} {p : List MemPlace} {base : Nat} (m : Nat) (ht : P.underlying t = some (.slice e)) (hp : plainB P m t = true)
    (hv : Value.okWide P w .any base t v) (h : DataW.Trod enc P w 0 (fun _ => true) true t v d p) : ∃ f rows, VR (snapAll w) noEnv (.view f (P.cellsOf e) rows) v ∧ ∀ row ∈ rows, Sh P e row := by
  obtain ⟨a, len, cap, rfl⟩ := okWide_slice ht hv
  obtain ⟨n, hn⟩ := h
  obtain ⟨xs, h1, h2⟩ := read_trod m t hp n _ _ hn
  obtain ⟨f, rows, rfl, _, hr⟩ := h2.slice_inv ht
  exact ⟨f, rows, (h1.2 0 _ _ rfl (by simp [Value.cells])).1, hr⟩
theorem read_ops {H : Type} {enc : TypeId × Value → H} {w : World} {v : Value} {d : DataW H} {p : List MemPlace} {base : Nat} (hv : Value.okWide Try.prog w .any base 55 v)
    (h : DataW.Trod enc Try.prog w 0 (fun _ => true) true 55 v d p) : ∃ l : List O, VR (snapAll w) noEnv (.view false 3 (l.map O.row)) v := by
  obtain ⟨f, rows, h1, h2⟩ := read_slice 5 Try.underlying55 (by kernel_rfl) hv h
  obtain ⟨l, hl⟩ := Sh.rows (f := O.row) (fun row hrow => sh_op hrow) h2
  refine ⟨l, ?_⟩
  have := h1.wk
  simpa [AV.wk, hl, cells_op] using this
theorem rd_op : Try.prog.readableRec 58 = true ∧ 58 < Try.prog.types.size := ⟨by kernel_rfl, of_decide_eq_true (by kernel_rfl)⟩
theorem rd_ops : Try.prog.readableRec 55 = true ∧ 55 < Try.prog.types.size := ⟨by kernel_rfl, of_decide_eq_true (by kernel_rfl)⟩
theorem flat2 {xss : List (List AV)} (h : xss.length = 2) : ∃ a b, xss = [a, b] := by
  match xss, h with
  | [a, b], _ => exact ⟨a, b, rfl⟩
end Go.Proofs.Ytljepmbikbdicaa
