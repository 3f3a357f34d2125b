/- cpu: the reference's Run, and the statement CpuRuns. No condition. -/
import Derived.Test.YtojfnagfafoiaaaDoorST
import Derived.Test.YtojfnagfafoiaaaDoorSP
import Derived.Test.YtojfnagfafoiaaaDoorSM
set_option maxRecDepth 100000
set_option linter.unusedVariables false
set_option linter.unusedSimpArgs false
namespace Go.Proofs.YtojfnagfafoiaaaDoor
open Go.AM
def ranD (t : Sp) (e : Eff) (d : AV) (k : Int) : List AV := .view false 1 (t.perm.map r1) :: .view false 1 (t.byt.map rb) :: (e.cellsD d ++ [iv k])
def ranC (t : Sp) (e : Eff) (k : Int) : List AV := ranD t e (dby e.data) k
def ranN : List AV := .view true 0 [] :: .view true 0 [] :: (eff0.cellsD dnil ++ [iv 0])
theorem leL_app : ∀ {xs ys zs : List AV}, LeL xs ys → LeL (xs ++ zs) (ys ++ zs)
  | _, _, zs, .nil => .refl zs
  | _, _, _, .cons h1 h2 => .cons h1 (leL_app h2)
theorem ranD_le (t : Sp) (r : Rg) : LeL (ranD t (effR r) dnil 0) (ranC t (effR r) 0) := .cons (.refl _) (.cons (.refl _) (leL_app (leL_dnil (effR r))))
theorem ranC_lt (t : Sp) (e : Eff) (k : Int) (n : Nat) : ltL n (ranC t e k) = true := by simp [ranC, ranD, Eff.cellsD, ltL, AV.lt, dby]
theorem rRun_c (s : Sp) (hs : s.ok) (r : Rg) (hr : r.wf) (n : Nat) (hn : n ≤ 2000) : ACalls Tryd.prog 47 [s.av, r.av, iv n] []
    (fun o H => o = .ret (.agg (ranC (run s (effR r) n).1 (run s (effR r) n).2.1 (run s (effR r) n).2.2)) ∧ H = []) := by
  refine ACalls.up ?_
  refine ACalls.intro (cs := []) (n := 43) Tryd.func47 rfl rfl rfl (by kernel_rfl) rfl ?_
  generalize hpost : (fun (o : Out) (H : Heap) => o = Out.ret (.agg (ranC (run s (effR r) n).1 (run s (effR r) n).2.1 (run s (effR r) n).2.2)) ∧ H = []) = post
  have fin : ∀ (t : Sp) (e : Eff) (k : Nat) H, run s (effR r) n = (t, e, k) → Up 0 post (.ret (.agg (ranC t e k))) H := fun t e k H h => finv (by rw [AV.lt]; exact ranC_lt _ _ _ _) (by rw [← hpost, h]; exact ⟨rfl, rfl⟩) H
  simp only [go_sem,Nat.reduceAdd,Nat.reduceSub,Nat.reduceMul,Nat.reduceEqDiff,Nat.reduceLeDiff,Nat.reduceLT,↓reduceIte,Int.reduceToNat,reduceCtorEq,Int.reduceLT,Int.reduceLE,Int.reduceGT,Int.reduceGE,Int.reduceEq,Int.reduceNe,Int.reduceNeg,Int.reduceAdd,Int.reduceSub,Sp.av,Rg.av,Rg.cells]
  refine loop_fam (fun q : Nat × Sp × Eff => (((((Ch.nil.put 2 (iv n)).put 3 (.ptr 0 0 0)).put 4 (.ptr 1 0 0)).put 6 (.ptr 2 0 0)).put 7 (.ptr 3 0 0)).put 8 (iv q.1))
    (fun q => [.rows 2 [[.view false 1 (s.perm.map r1), .view false 1 (s.byt.map rb)]], .rows 9 [r.cells], .rows 22 [ranN], .rows 22 [ranC q.2.1 q.2.2 q.1]])
    (fun q => n - q.1) (fun q => q.1 ≤ n ∧ q.2.1.ok ∧ q.2.2.rg.wf ∧ run s (effR r) n = ((run q.2.1 q.2.2 (n - q.1)).1, (run q.2.1 q.2.2 (n - q.1)).2.1, (run q.2.1 q.2.2 (n - q.1)).2.2 + q.1)) (0, s, effR r) (by kernel_rfl) ⟨Nat.zero_le _, hs, hr, rfl⟩ ?_ ?_
  · refine (Wk.slots (s' := (((((Ch.nil.put 2 (iv n)).put 3 (.ptr 0 0 0)).put 4 (.ptr 1 0 0)).put 6 (.ptr 2 0 0)).put 7 (.ptr 3 0 0)).put 8 (iv 0)) (by simp [wkS, Ch.get])).trans (Wk.leH ?_)
    exact .cons (.refl _) (.cons (.refl _) (.cons (.refl _) (.cons (.rows 22 (.cons (ranD_le s r) .nil)) .nil)))
  rintro ⟨i, t, e⟩ ⟨hi, hts, hew, hrun⟩ K hK
  simp only at hi hts hew hrun
  simp only [go_sem,Nat.reduceAdd,Nat.reduceSub,Nat.reduceMul,Nat.reduceEqDiff,Nat.reduceLeDiff,Nat.reduceLT,↓reduceIte,Int.reduceToNat,reduceCtorEq,Int.reduceLT,Int.reduceLE,Int.reduceGT,Int.reduceGE,Int.reduceEq,Int.reduceNe,Int.reduceNeg,Int.reduceAdd,Int.reduceSub]
  refine condD_dec (fun hc => ?_) (fun hc => ?_)
  · have e1 : iw .i64 ((i : Int) + 1) = ((i + 1 : Nat) : Int) := by rw [iw64] <;> omega
    obtain ⟨m, hm⟩ : ∃ m, n - i = m + 1 := ⟨n - i - 1, by omega⟩
    have hm2 : n - (i + 1) = m := by omega
    rw [hm] at hrun
    rw [run_succ] at hrun
    have hst := rstep_c t hts e.rg hew
    have hA := rApply_c t hts (step t e.rg) (step_pos2 hew)
    rw [applyR, if_pos hts, if_pos (step_fits hew)] at hA
    have hn1 := step_next hts hew
    have hn2 := step_wf (s := t) hew
    generalize step t e.rg = f at *
    simp only [go_sem,Nat.reduceAdd,Nat.reduceSub,Nat.reduceMul,Nat.reduceEqDiff,Nat.reduceLeDiff,Nat.reduceLT,↓reduceIte,Int.reduceToNat,reduceCtorEq,Int.reduceLT,Int.reduceLE,Int.reduceGT,Int.reduceGE,Int.reduceEq,Int.reduceNe,Int.reduceNeg,Int.reduceAdd,Int.reduceSub,ranC,ranD,Eff.cellsD]
    refine rK_use (enters_of Tryd.func23 rfl (by decide)) (ACalls.pure_use hst rfl (by simp [AV.lt, ltL, Eff.av_lt])) ?_
    rcases Decidable.em (f.trap.kind = 0) with h5 | h5
    · rw [if_pos h5] at hrun
      generalize t.wr f.pos.toNat f.data = t2 at *
      simp only [go_sem,Nat.reduceAdd,Nat.reduceSub,Nat.reduceMul,Nat.reduceEqDiff,Nat.reduceLeDiff,Nat.reduceLT,↓reduceIte,Int.reduceToNat,reduceCtorEq,Int.reduceLT,Int.reduceLE,Int.reduceGT,Int.reduceGE,Int.reduceEq,Int.reduceNe,Int.reduceNeg,Int.reduceAdd,Int.reduceSub,Eff.av,Eff.cells,Eff.cellsD,eq_true h5]
      refine rK_use (enters_of Tryd.func44 rfl (by decide)) (ACalls.pure_use hA rfl rfl) ?_
      simp only [go_sem,Nat.reduceAdd,Nat.reduceSub,Nat.reduceMul,Nat.reduceEqDiff,Nat.reduceLeDiff,Nat.reduceLT,↓reduceIte,Int.reduceToNat,reduceCtorEq,Int.reduceLT,Int.reduceLE,Int.reduceGT,Int.reduceGE,Int.reduceEq,Int.reduceNe,Int.reduceNeg,Int.reduceAdd,Int.reduceSub,e1]
      refine hK (i + 1, t2, f) _ _ ⟨by omega, hn1, hn2, ?_⟩ (by simp only; omega) (Wk.slots' rfl (by simp [wkS, Ch.get]))
      rw [hrun, hm2]
      simp only [Prod.mk.injEq, true_and]
      omega
    · rw [if_neg h5] at hrun
      simp only [go_sem,Nat.reduceAdd,Nat.reduceSub,Nat.reduceMul,Nat.reduceEqDiff,Nat.reduceLeDiff,Nat.reduceLT,↓reduceIte,Int.reduceToNat,reduceCtorEq,Int.reduceLT,Int.reduceLE,Int.reduceGT,Int.reduceGE,Int.reduceEq,Int.reduceNe,Int.reduceNeg,Int.reduceAdd,Int.reduceSub,Eff.av,Eff.cells,Eff.cellsD,eq_false h5,ranN]
      exact fin t f i _ (by rw [hrun]; simp)
  · simp only [go_sem,Nat.reduceAdd,Nat.reduceSub,Nat.reduceMul,Nat.reduceEqDiff,Nat.reduceLeDiff,Nat.reduceLT,↓reduceIte,Int.reduceToNat,reduceCtorEq,Int.reduceLT,Int.reduceLE,Int.reduceGT,Int.reduceGE,Int.reduceEq,Int.reduceNe,Int.reduceNeg,Int.reduceAdd,Int.reduceSub]
    have : i = n := by omega
    subst this
    rw [Nat.sub_self] at hrun
    simp only [go_sem,Nat.reduceAdd,Nat.reduceSub,Nat.reduceMul,Nat.reduceEqDiff,Nat.reduceLeDiff,Nat.reduceLT,↓reduceIte,Int.reduceToNat,reduceCtorEq,Int.reduceLT,Int.reduceLE,Int.reduceGT,Int.reduceGE,Int.reduceEq,Int.reduceNe,Int.reduceNeg,Int.reduceAdd,Int.reduceSub,ranC,ranD,Eff.cellsD,ranN]
    exact fin t e i _ (by rw [hrun]; simp [run])
theorem CpuRuns_c (s : Sp) (r : Rg) (hr : r.wf) (n : Int) (hn : I64 n) : ACalls Tryd.prog 14 [s.av, r.av, iv n] [] (fun o H => o = .ret (.bool true) ∧ H = []) := by
  refine ACalls.up ?_
  refine ACalls.intro (cs := []) (n := 85) Tryd.func14 rfl rfl rfl (by kernel_rfl) rfl ?_
  generalize hpost : (fun (o : Out) (H : Heap) => o = Out.ret (.bool true) ∧ H = []) = post
  have fin : ∀ H, Up 0 post (.ret (.bool true)) H := fun H => finv rfl (by rw [← hpost]; exact ⟨rfl, rfl⟩) H
  have hK := rcheck_c s
  have hS0 : ACalls Tryd.prog 43 [sp0.av, spN] [] (fun o H => o = .ret (.bool true) ∧ H = []) := by
    have := rsames_c sp0 sp0 (by decide)
    rw [sameS_self] at this
    exact this.leA (.cons (.refl _) (.cons spN_le .nil))
  have hE0 : ACalls Tryd.prog 21 [eff0.av, .agg (eff0.cellsD dnil)] [] (fun o H => o = .ret (.bool true) ∧ H = []) := by
    have := rSame_c eff0 eff0
    rw [sameE_self] at this
    exact this.leA (.cons (.refl _) (.cons effN_le .nil))
  simp only [go_sem,Nat.reduceAdd,Nat.reduceSub,Nat.reduceMul,Nat.reduceEqDiff,Nat.reduceLeDiff,Nat.reduceLT,↓reduceIte,Int.reduceToNat,reduceCtorEq,Int.reduceLT,Int.reduceLE,Int.reduceGT,Int.reduceGE,Int.reduceEq,Int.reduceNe,Int.reduceNeg,Int.reduceAdd,Int.reduceSub,Rg.av,Rg.cells,Sp.av]
  refine rK_use (enters_of Tryd.func16 rfl (by decide)) (ACalls.pure_use (sane_c) rfl rfl) ?_
  simp only [go_sem,Nat.reduceAdd,Nat.reduceSub,Nat.reduceMul,Nat.reduceEqDiff,Nat.reduceLeDiff,Nat.reduceLT,↓reduceIte,Int.reduceToNat,reduceCtorEq,Int.reduceLT,Int.reduceLE,Int.reduceGT,Int.reduceGE,Int.reduceEq,Int.reduceNe,Int.reduceNeg,Int.reduceAdd,Int.reduceSub]
  by_cases hs : s.ok
  rotate_left
  · have hR1 := Run_bad s hs r n
    rw [Sp.chk, if_neg hs] at hK
    refine rK_use (enters_of Tryd.func46 rfl (by decide)) (ACalls.pure_use hR1 rfl (by simp [AV.lt, ltL, Eff.av_lt, Sp.av])) ?_
    simp only [go_sem,Nat.reduceAdd,Nat.reduceSub,Nat.reduceMul,Nat.reduceEqDiff,Nat.reduceLeDiff,Nat.reduceLT,↓reduceIte,Int.reduceToNat,reduceCtorEq,Int.reduceLT,Int.reduceLE,Int.reduceGT,Int.reduceGE,Int.reduceEq,Int.reduceNe,Int.reduceNeg,Int.reduceAdd,Int.reduceSub,Sp.av,Eff.av,Eff.cells,Eff.cellsD]
    refine rK_use (enters_of Tryd.func20 rfl (by decide)) (ACalls.pure_use hK rfl rfl) ?_
    simp only [go_sem,Nat.reduceAdd,Nat.reduceSub,Nat.reduceMul,Nat.reduceEqDiff,Nat.reduceLeDiff,Nat.reduceLT,↓reduceIte,Int.reduceToNat,reduceCtorEq,Int.reduceLT,Int.reduceLE,Int.reduceGT,Int.reduceGE,Int.reduceEq,Int.reduceNe,Int.reduceNeg,Int.reduceAdd,Int.reduceSub]
    refine rK_use (enters_of Tryd.func43 rfl (by decide)) (ACalls.pure_use hS0 rfl rfl) ?_
    simp only [go_sem,Nat.reduceAdd,Nat.reduceSub,Nat.reduceMul,Nat.reduceEqDiff,Nat.reduceLeDiff,Nat.reduceLT,↓reduceIte,Int.reduceToNat,reduceCtorEq,Int.reduceLT,Int.reduceLE,Int.reduceGT,Int.reduceGE,Int.reduceEq,Int.reduceNe,Int.reduceNeg,Int.reduceAdd,Int.reduceSub]
    refine rK_use (enters_of Tryd.func21 rfl (by decide)) (ACalls.pure_use hE0 rfl rfl) ?_
    simp only [go_sem,Nat.reduceAdd,Nat.reduceSub,Nat.reduceMul,Nat.reduceEqDiff,Nat.reduceLeDiff,Nat.reduceLT,↓reduceIte,Int.reduceToNat,reduceCtorEq,Int.reduceLT,Int.reduceLE,Int.reduceGT,Int.reduceGE,Int.reduceEq,Int.reduceNe,Int.reduceNeg,Int.reduceAdd,Int.reduceSub]
    exact fin _
  rw [Sp.chk_ok hs] at hK
  by_cases hb : n < 0 ∨ 2000 < n
  · have hR1 := Run_arg s hs r n hb
    refine rK_use (enters_of Tryd.func46 rfl (by decide)) (ACalls.pure_use hR1 rfl (by simp [AV.lt, ltL, Eff.av_lt, Sp.av])) ?_
    simp only [go_sem,Nat.reduceAdd,Nat.reduceSub,Nat.reduceMul,Nat.reduceEqDiff,Nat.reduceLeDiff,Nat.reduceLT,↓reduceIte,Int.reduceToNat,reduceCtorEq,Int.reduceLT,Int.reduceLE,Int.reduceGT,Int.reduceGE,Int.reduceEq,Int.reduceNe,Int.reduceNeg,Int.reduceAdd,Int.reduceSub,Sp.av,Eff.av,Eff.cells,Eff.cellsD]
    refine rK_use (enters_of Tryd.func20 rfl (by decide)) (ACalls.pure_use hK rfl rfl) ?_
    rcases Decidable.em (n < 0) with h0 | h0
    · simp only [go_sem,Nat.reduceAdd,Nat.reduceSub,Nat.reduceMul,Nat.reduceEqDiff,Nat.reduceLeDiff,Nat.reduceLT,↓reduceIte,Int.reduceToNat,reduceCtorEq,Int.reduceLT,Int.reduceLE,Int.reduceGT,Int.reduceGE,Int.reduceEq,Int.reduceNe,Int.reduceNeg,Int.reduceAdd,Int.reduceSub,eq_true h0]
      refine rK_use (enters_of Tryd.func43 rfl (by decide)) (ACalls.pure_use hS0 rfl rfl) ?_
      simp only [go_sem,Nat.reduceAdd,Nat.reduceSub,Nat.reduceMul,Nat.reduceEqDiff,Nat.reduceLeDiff,Nat.reduceLT,↓reduceIte,Int.reduceToNat,reduceCtorEq,Int.reduceLT,Int.reduceLE,Int.reduceGT,Int.reduceGE,Int.reduceEq,Int.reduceNe,Int.reduceNeg,Int.reduceAdd,Int.reduceSub]
      refine rK_use (enters_of Tryd.func21 rfl (by decide)) (ACalls.pure_use hE0 rfl rfl) ?_
      simp only [go_sem,Nat.reduceAdd,Nat.reduceSub,Nat.reduceMul,Nat.reduceEqDiff,Nat.reduceLeDiff,Nat.reduceLT,↓reduceIte,Int.reduceToNat,reduceCtorEq,Int.reduceLT,Int.reduceLE,Int.reduceGT,Int.reduceGE,Int.reduceEq,Int.reduceNe,Int.reduceNeg,Int.reduceAdd,Int.reduceSub]
      exact fin _
    · have h1 : (2000 : Int) < n := by omega
      simp only [go_sem,Nat.reduceAdd,Nat.reduceSub,Nat.reduceMul,Nat.reduceEqDiff,Nat.reduceLeDiff,Nat.reduceLT,↓reduceIte,Int.reduceToNat,reduceCtorEq,Int.reduceLT,Int.reduceLE,Int.reduceGT,Int.reduceGE,Int.reduceEq,Int.reduceNe,Int.reduceNeg,Int.reduceAdd,Int.reduceSub,eq_false h0,eq_true h1]
      refine rK_use (enters_of Tryd.func43 rfl (by decide)) (ACalls.pure_use hS0 rfl rfl) ?_
      simp only [go_sem,Nat.reduceAdd,Nat.reduceSub,Nat.reduceMul,Nat.reduceEqDiff,Nat.reduceLeDiff,Nat.reduceLT,↓reduceIte,Int.reduceToNat,reduceCtorEq,Int.reduceLT,Int.reduceLE,Int.reduceGT,Int.reduceGE,Int.reduceEq,Int.reduceNe,Int.reduceNeg,Int.reduceAdd,Int.reduceSub]
      refine rK_use (enters_of Tryd.func21 rfl (by decide)) (ACalls.pure_use hE0 rfl rfl) ?_
      simp only [go_sem,Nat.reduceAdd,Nat.reduceSub,Nat.reduceMul,Nat.reduceEqDiff,Nat.reduceLeDiff,Nat.reduceLT,↓reduceIte,Int.reduceToNat,reduceCtorEq,Int.reduceLT,Int.reduceLE,Int.reduceGT,Int.reduceGE,Int.reduceEq,Int.reduceNe,Int.reduceNeg,Int.reduceAdd,Int.reduceSub]
      exact fin _
  have h0 : ¬ n < 0 := by omega
  have h1 : ¬ (2000 : Int) < n := by omega
  obtain ⟨m, rfl⟩ : ∃ m : Nat, n = m := ⟨n.toNat, by omega⟩
  have hR1 := Run_c s hs r hr m (by omega)
  have hR2 := rRun_c s hs r hr m (by omega)
  have ho := run_ok m s (effR r) hs hr
  generalize run s (effR r) m = q1 at *
  obtain ⟨t, e, k⟩ := q1
  simp only at ho
  simp only [runV] at hR1 hR2
  have hS := rsames_c t t (by have := ho.1.p32; omega)
  have hE := rSame_c e e
  rw [sameS_self] at hS
  rw [sameE_self] at hE
  refine rK_use (enters_of Tryd.func46 rfl (by decide)) (ACalls.pure_use hR1 rfl (by simp [AV.lt, ltL, Eff.av_lt, Sp.av])) ?_
  simp only [go_sem,Nat.reduceAdd,Nat.reduceSub,Nat.reduceMul,Nat.reduceEqDiff,Nat.reduceLeDiff,Nat.reduceLT,↓reduceIte,Int.reduceToNat,reduceCtorEq,Int.reduceLT,Int.reduceLE,Int.reduceGT,Int.reduceGE,Int.reduceEq,Int.reduceNe,Int.reduceNeg,Int.reduceAdd,Int.reduceSub,Sp.av,Eff.av,Eff.cells,Eff.cellsD]
  refine rK_use (enters_of Tryd.func20 rfl (by decide)) (ACalls.pure_use hK rfl rfl) ?_
  simp only [go_sem,Nat.reduceAdd,Nat.reduceSub,Nat.reduceMul,Nat.reduceEqDiff,Nat.reduceLeDiff,Nat.reduceLT,↓reduceIte,Int.reduceToNat,reduceCtorEq,Int.reduceLT,Int.reduceLE,Int.reduceGT,Int.reduceGE,Int.reduceEq,Int.reduceNe,Int.reduceNeg,Int.reduceAdd,Int.reduceSub,eq_false h0,eq_false h1]
  refine rK_use (enters_of Tryd.func47 rfl (by decide)) (ACalls.pure_use hR2 rfl (by rw [AV.lt]; exact ranC_lt _ _ _ _)) ?_
  simp only [go_sem,Nat.reduceAdd,Nat.reduceSub,Nat.reduceMul,Nat.reduceEqDiff,Nat.reduceLeDiff,Nat.reduceLT,↓reduceIte,Int.reduceToNat,reduceCtorEq,Int.reduceLT,Int.reduceLE,Int.reduceGT,Int.reduceGE,Int.reduceEq,Int.reduceNe,Int.reduceNeg,Int.reduceAdd,Int.reduceSub,ranC,ranD,Eff.cellsD]
  refine rK_use (enters_of Tryd.func43 rfl (by decide)) (ACalls.pure_use hS rfl rfl) ?_
  simp only [go_sem,Nat.reduceAdd,Nat.reduceSub,Nat.reduceMul,Nat.reduceEqDiff,Nat.reduceLeDiff,Nat.reduceLT,↓reduceIte,Int.reduceToNat,reduceCtorEq,Int.reduceLT,Int.reduceLE,Int.reduceGT,Int.reduceGE,Int.reduceEq,Int.reduceNe,Int.reduceNeg,Int.reduceAdd,Int.reduceSub]
  refine rK_use (enters_of Tryd.func21 rfl (by decide)) (ACalls.pure_use hE rfl rfl) ?_
  simp only [go_sem,Nat.reduceAdd,Nat.reduceSub,Nat.reduceMul,Nat.reduceEqDiff,Nat.reduceLeDiff,Nat.reduceLT,↓reduceIte,Int.reduceToNat,reduceCtorEq,Int.reduceLT,Int.reduceLE,Int.reduceGT,Int.reduceGE,Int.reduceEq,Int.reduceNe,Int.reduceNeg,Int.reduceAdd,Int.reduceSub]
  exact fin _
end Go.Proofs.YtojfnagfafoiaaaDoor
