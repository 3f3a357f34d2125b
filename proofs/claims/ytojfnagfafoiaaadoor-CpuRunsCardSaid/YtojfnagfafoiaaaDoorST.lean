/- cpu: Run. No condition. -/
import Derived.Test.YtojfnagfafoiaaaDoorSR
import Derived.Test.YtojfnagfafoiaaaDoorSS
set_option maxRecDepth 100000
set_option linter.unusedVariables false
set_option linter.unusedSimpArgs false
namespace Go.Proofs.YtojfnagfafoiaaaDoor
open Go.AM
/-- A run of at most so many instructions, behind an effect. -/
def run (s : Sp) (e : Eff) : Nat → Sp × Eff × Nat
  | 0 => (s, e, 0)
  | m + 1 => if (step s e.rg).trap.kind = 0 then
      ((run (s.wr (step s e.rg).pos.toNat (step s e.rg).data) (step s e.rg) m).1, (run (s.wr (step s e.rg).pos.toNat (step s e.rg).data) (step s e.rg) m).2.1, (run (s.wr (step s e.rg).pos.toNat (step s e.rg).data) (step s e.rg) m).2.2 + 1)
    else (s, step s e.rg, 0)
theorem run_succ (s : Sp) (e : Eff) (m : Nat) : run s e (m + 1) = if (step s e.rg).trap.kind = 0 then
      ((run (s.wr (step s e.rg).pos.toNat (step s e.rg).data) (step s e.rg) m).1, (run (s.wr (step s e.rg).pos.toNat (step s e.rg).data) (step s e.rg) m).2.1, (run (s.wr (step s e.rg).pos.toNat (step s e.rg).data) (step s e.rg) m).2.2 + 1)
    else (s, step s e.rg, 0) := rfl
theorem exec_pos2 {x : Ins} (hx : x.ok) {s : Sp} {r : Rg} (hr : r.wf) : I64 (exec x s r).pos := by
  have hF := frame (x := x) (s := s) (r := r) hx hr
  by_cases hd : (exec x s r).data = []
  · rw [hF.pos0 hd]; exact ⟨by decide, by decide⟩
  · obtain ⟨a, ha, hw, hp, hsz⟩ := hF.acc hd
    rw [← hp]
    have hI := fun n => iw_I64 n
    have h7 : I64 r.r7 := hr.reg _ (by simp [Rg.list])
    revert ha
    unfold foot
    repeat' split
    all_goals simp
    all_goals intro h
    all_goals first
      | (subst h; first | exact hI _ | exact h7)
      | (rcases h with h | h <;> subst h <;> first | exact hI _ | exact h7)
theorem step_pos2 {s : Sp} {r : Rg} (hr : r.wf) : I64 (step s r).pos := by
  unfold step
  split
  · rename_i h; exact exec_pos2 (dec_ok h) hr
  · have h0 : I64 0 := ⟨by decide, by decide⟩
    split <;> exact h0
theorem step_next {s : Sp} (hs : s.ok) {r : Rg} (hr : r.wf) : (s.wr (step s r).pos.toNat (step s r).data).ok := appl_ok hs (step_pos2 hr) (step_fits hr)
def effR (r : Rg) : Eff := ⟨r, 0, [], ⟨0, 0, ⟨0, 0⟩⟩, x0⟩
theorem run_ok : ∀ (m : Nat) (s : Sp) (e : Eff), s.ok → e.rg.wf → (run s e m).1.ok ∧ (run s e m).2.1.rg.wf
  | 0, s, e, hs, he => ⟨hs, he⟩
  | m + 1, s, e, hs, he => by
    unfold run
    split
    · exact run_ok m _ _ (step_next hs he) (step_wf he)
    · exact ⟨hs, step_wf he⟩
theorem run_le : ∀ (m : Nat) (s : Sp) (e : Eff), (run s e m).2.2 ≤ m
  | 0, s, e => Nat.le_refl _
  | m + 1, s, e => by
    unfold run
    split
    · have := run_le m (s.wr (step s e.rg).pos.toNat (step s e.rg).data) (step s e.rg)
      simp only
      omega
    · exact Nat.zero_le _
/-- What Run hands over. -/
def runV (q : Sp × Eff × Nat) : AV := .tuple [q.1.av, q.2.1.av, iv q.2.2, iv 0]
theorem effN_le : LeV (.agg (eff0.cellsD dnil)) eff0.av := .agg (leL_dnil eff0)
theorem Run_bad (s : Sp) (hs : ¬ s.ok) (r : Rg) (n : Int) : ACalls Tryd.prog 46 [s.av, r.av, iv n] [] (fun o H => o = .ret (.tuple [sp0.av, eff0.av, iv 0, iv 30]) ∧ H = []) := by
  refine ACalls.up ?_
  refine ACalls.intro (cs := []) (n := 61) Tryd.func46 rfl rfl rfl (by kernel_rfl) rfl ?_
  generalize hpost : (fun (o : Out) (H : Heap) => o = Out.ret (.tuple [sp0.av, eff0.av, iv 0, iv 30]) ∧ H = []) = post
  simp only [go_sem,Nat.reduceAdd,Nat.reduceSub,Nat.reduceMul,Nat.reduceEqDiff,Nat.reduceLeDiff,Nat.reduceLT,↓reduceIte,Int.reduceToNat,reduceCtorEq,Int.reduceLT,Int.reduceLE,Int.reduceGT,Int.reduceGE,Int.reduceEq,Int.reduceNe,Int.reduceNeg,Int.reduceAdd,Int.reduceSub,Sp.av,Rg.av,Rg.cells]
  refine rK_use (enters_of Tryd.func50 rfl (by decide)) (ACalls.pure_use (mcheck_c s) rfl rfl) ?_
  rw [Sp.chk, if_neg hs]
  simp only [go_sem,Nat.reduceAdd,Nat.reduceSub,Nat.reduceMul,Nat.reduceEqDiff,Nat.reduceLeDiff,Nat.reduceLT,↓reduceIte,Int.reduceToNat,reduceCtorEq,Int.reduceLT,Int.reduceLE,Int.reduceGT,Int.reduceGE,Int.reduceEq,Int.reduceNe,Int.reduceNeg,Int.reduceAdd,Int.reduceSub]
  refine .le (o' := .ret (.tuple [sp0.av, eff0.av, iv 0, iv 30])) (.ret (.tuple (.cons spN_le (.cons effN_le (.cons (.refl _) (.cons (.refl _) .nil)))))) (LeH.refl _) (finv rfl (by rw [← hpost]; exact ⟨rfl, rfl⟩) _)
theorem Run_arg (s : Sp) (hs : s.ok) (r : Rg) (n : Int) (hn : n < 0 ∨ 2000 < n) : ACalls Tryd.prog 46 [s.av, r.av, iv n] [] (fun o H => o = .ret (.tuple [sp0.av, eff0.av, iv 0, iv 1]) ∧ H = []) := by
  refine ACalls.up ?_
  refine ACalls.intro (cs := []) (n := 61) Tryd.func46 rfl rfl rfl (by kernel_rfl) rfl ?_
  generalize hpost : (fun (o : Out) (H : Heap) => o = Out.ret (.tuple [sp0.av, eff0.av, iv 0, iv 1]) ∧ H = []) = post
  have fin : ∀ H, Up 0 post (.ret (.tuple [spN, .agg (eff0.cellsD dnil), iv 0, iv 1])) H := fun H =>
    .le (o' := .ret (.tuple [sp0.av, eff0.av, iv 0, iv 1])) (.ret (.tuple (.cons spN_le (.cons effN_le (.cons (.refl _) (.cons (.refl _) .nil)))))) (LeH.refl _) (finv rfl (by rw [← hpost]; exact ⟨rfl, rfl⟩) _)
  simp only [go_sem,Nat.reduceAdd,Nat.reduceSub,Nat.reduceMul,Nat.reduceEqDiff,Nat.reduceLeDiff,Nat.reduceLT,↓reduceIte,Int.reduceToNat,reduceCtorEq,Int.reduceLT,Int.reduceLE,Int.reduceGT,Int.reduceGE,Int.reduceEq,Int.reduceNe,Int.reduceNeg,Int.reduceAdd,Int.reduceSub,Sp.av,Rg.av,Rg.cells]
  refine rK_use (enters_of Tryd.func50 rfl (by decide)) (ACalls.pure_use (mcheck_c s) rfl rfl) ?_
  rw [Sp.chk_ok hs]
  rcases Decidable.em (n < 0) with h0 | h0
  · simp only [go_sem,Nat.reduceAdd,Nat.reduceSub,Nat.reduceMul,Nat.reduceEqDiff,Nat.reduceLeDiff,Nat.reduceLT,↓reduceIte,Int.reduceToNat,reduceCtorEq,Int.reduceLT,Int.reduceLE,Int.reduceGT,Int.reduceGE,Int.reduceEq,Int.reduceNe,Int.reduceNeg,Int.reduceAdd,Int.reduceSub,eq_true h0]
    exact fin _
  · have h1 : (2000 : Int) < n := by omega
    simp only [go_sem,Nat.reduceAdd,Nat.reduceSub,Nat.reduceMul,Nat.reduceEqDiff,Nat.reduceLeDiff,Nat.reduceLT,↓reduceIte,Int.reduceToNat,reduceCtorEq,Int.reduceLT,Int.reduceLE,Int.reduceGT,Int.reduceGE,Int.reduceEq,Int.reduceNe,Int.reduceNeg,Int.reduceAdd,Int.reduceSub,eq_false h0,eq_true h1]
    exact fin _
theorem Run_c (s : Sp) (hs : s.ok) (r : Rg) (hr : r.wf) (n : Nat) (hn : n ≤ 2000) : ACalls Tryd.prog 46 [s.av, r.av, iv n] [] (fun o H => o = .ret (runV (run s (effR r) n)) ∧ H = []) := by
  refine ACalls.up ?_
  refine ACalls.intro (cs := []) (n := 61) Tryd.func46 rfl rfl rfl (by kernel_rfl) rfl ?_
  generalize hpost : (fun (o : Out) (H : Heap) => o = Out.ret (runV (run s (effR r) n)) ∧ H = []) = post
  have fin : ∀ (t : Sp) (e : Eff) (k : Nat) H, run s (effR r) n = (t, e, k) → Up 0 post (.ret (.tuple [t.av, e.av, iv k, iv 0])) H := fun t e k H h => finv rfl (by rw [← hpost, h]; exact ⟨rfl, rfl⟩) H
  simp only [go_sem,Nat.reduceAdd,Nat.reduceSub,Nat.reduceMul,Nat.reduceEqDiff,Nat.reduceLeDiff,Nat.reduceLT,↓reduceIte,Int.reduceToNat,reduceCtorEq,Int.reduceLT,Int.reduceLE,Int.reduceGT,Int.reduceGE,Int.reduceEq,Int.reduceNe,Int.reduceNeg,Int.reduceAdd,Int.reduceSub,Sp.av,Rg.av,Rg.cells]
  refine rK_use (enters_of Tryd.func50 rfl (by decide)) (ACalls.pure_use (mcheck_c s) rfl rfl) ?_
  rw [Sp.chk_ok hs]
  have h0 : ¬ (n : Int) < 0 := by omega
  have h1 : ¬ (2000 : Int) < n := by omega
  simp only [go_sem,Nat.reduceAdd,Nat.reduceSub,Nat.reduceMul,Nat.reduceEqDiff,Nat.reduceLeDiff,Nat.reduceLT,↓reduceIte,Int.reduceToNat,reduceCtorEq,Int.reduceLT,Int.reduceLE,Int.reduceGT,Int.reduceGE,Int.reduceEq,Int.reduceNe,Int.reduceNeg,Int.reduceAdd,Int.reduceSub,h0,h1]
  have hP := poke_c s hs 0 ⟨by decide, by decide⟩ [] (by decide) rfl
  rw [wr_nil] at hP
  refine rK_use (enters_of Tryd.func79 rfl (by decide)) (ACalls.leA (.cons (.refl _) (.cons (.refl _) (.cons (.nil true false 0 1 (by simp)) .nil))) (ACalls.pure_use hP rfl rfl)) ?_
  simp only [go_sem,Nat.reduceAdd,Nat.reduceSub,Nat.reduceMul,Nat.reduceEqDiff,Nat.reduceLeDiff,Nat.reduceLT,↓reduceIte,Int.reduceToNat,reduceCtorEq,Int.reduceLT,Int.reduceLE,Int.reduceGT,Int.reduceGE,Int.reduceEq,Int.reduceNe,Int.reduceNeg,Int.reduceAdd,Int.reduceSub,Sp.av]
  refine loop_fam (fun q : Nat × Sp × Eff => ((((((Ch.nil.put 2 (iv n)).put 3 (.ptr 0 0 0)).put 6 (.ptr 2 0 0)).put 7 (.ptr 3 0 0)).put 11 (.ptr 4 0 0)).put 36 (iv n)).put 37 (iv q.1))
    (fun q => [.rows 2 [[.view false 1 (q.2.1.perm.map r1), .view false 1 (q.2.1.byt.map rb)]], .rows 9 [r.cells], .rows 2 [[.view true 0 [], .view true 0 []]], .rows 19 [eff0.cellsD dnil], .rows 19 [q.2.2.cells]])
    (fun q => n - q.1) (fun q => q.1 ≤ n ∧ q.2.1.ok ∧ q.2.2.rg.wf ∧ run s (effR r) n = ((run q.2.1 q.2.2 (n - q.1)).1, (run q.2.1 q.2.2 (n - q.1)).2.1, (run q.2.1 q.2.2 (n - q.1)).2.2 + q.1)) (0, s, effR r) (by kernel_rfl) ⟨Nat.zero_le _, hs, hr, rfl⟩ ?_ ?_
  · refine (Wk.slots (s' := ((((((Ch.nil.put 2 (iv n)).put 3 (.ptr 0 0 0)).put 6 (.ptr 2 0 0)).put 7 (.ptr 3 0 0)).put 11 (.ptr 4 0 0)).put 36 (iv n)).put 37 (iv 0)) (by simp [wkS, Ch.get])).trans (Wk.leH ?_)
    exact .cons (.refl _) (.cons (.refl _) (.cons (.refl _) (.cons (.refl _) (.cons (.rows 19 (.cons (leL_dnil (effR r)) .nil)) .nil))))
  rintro ⟨i, t, e⟩ ⟨hi, hts, hew, hrun⟩ K hK
  simp only at hi hts hew hrun
  simp only [go_sem,Nat.reduceAdd,Nat.reduceSub,Nat.reduceMul,Nat.reduceEqDiff,Nat.reduceLeDiff,Nat.reduceLT,↓reduceIte,Int.reduceToNat,reduceCtorEq,Int.reduceLT,Int.reduceLE,Int.reduceGT,Int.reduceGE,Int.reduceEq,Int.reduceNe,Int.reduceNeg,Int.reduceAdd,Int.reduceSub]
  refine condD_dec (fun hc => ?_) (fun hc => ?_)
  · have e1 : iw .i64 ((i : Int) + 1) = ((i + 1 : Nat) : Int) := by rw [iw64] <;> omega
    obtain ⟨m, hm⟩ : ∃ m, n - i = m + 1 := ⟨n - i - 1, by omega⟩
    have hm2 : n - (i + 1) = m := by omega
    rw [hm] at hrun
    rw [run_succ] at hrun
    have hst := step_c t hts e.rg hew
    have hA := Apply_c t (step t e.rg) (step_pos2 hew)
    rw [applyR, if_pos hts, if_pos (step_fits hew)] at hA
    have hn1 := step_next hts hew
    have hn2 := step_wf (s := t) hew
    generalize step t e.rg = f at *
    simp only [go_sem,Nat.reduceAdd,Nat.reduceSub,Nat.reduceMul,Nat.reduceEqDiff,Nat.reduceLeDiff,Nat.reduceLT,↓reduceIte,Int.reduceToNat,reduceCtorEq,Int.reduceLT,Int.reduceLE,Int.reduceGT,Int.reduceGE,Int.reduceEq,Int.reduceNe,Int.reduceNeg,Int.reduceAdd,Int.reduceSub,Eff.cells,Eff.cellsD]
    refine rK_use (enters_of Tryd.func53 rfl (by decide)) (ACalls.pure_use hst rfl (by simp [AV.lt, ltL, Eff.av_lt])) ?_
    rcases Decidable.em (f.trap.kind = 0) with h5 | h5
    · rw [if_pos h5] at hrun
      generalize t.wr f.pos.toNat f.data = t2 at *
      obtain ⟨g, po, da, ⟨tk, tn, tf⟩, y⟩ := f
      simp only at h5
      subst h5
      simp only [go_sem,Nat.reduceAdd,Nat.reduceSub,Nat.reduceMul,Nat.reduceEqDiff,Nat.reduceLeDiff,Nat.reduceLT,↓reduceIte,Int.reduceToNat,reduceCtorEq,Int.reduceLT,Int.reduceLE,Int.reduceGT,Int.reduceGE,Int.reduceEq,Int.reduceNe,Int.reduceNeg,Int.reduceAdd,Int.reduceSub,Eff.av,Eff.cells,Eff.cellsD]
      refine rK_use (enters_of Tryd.func41 rfl (by decide)) (ACalls.pure_use hA rfl rfl) ?_
      simp only [go_sem,Nat.reduceAdd,Nat.reduceSub,Nat.reduceMul,Nat.reduceEqDiff,Nat.reduceLeDiff,Nat.reduceLT,↓reduceIte,Int.reduceToNat,reduceCtorEq,Int.reduceLT,Int.reduceLE,Int.reduceGT,Int.reduceGE,Int.reduceEq,Int.reduceNe,Int.reduceNeg,Int.reduceAdd,Int.reduceSub]
      refine rK_use (enters_of Tryd.func82 rfl (by decide)) (ACalls.pure_use (mustS_c t2) rfl rfl) ?_
      simp only [go_sem,Nat.reduceAdd,Nat.reduceSub,Nat.reduceMul,Nat.reduceEqDiff,Nat.reduceLeDiff,Nat.reduceLT,↓reduceIte,Int.reduceToNat,reduceCtorEq,Int.reduceLT,Int.reduceLE,Int.reduceGT,Int.reduceGE,Int.reduceEq,Int.reduceNe,Int.reduceNeg,Int.reduceAdd,Int.reduceSub,Sp.av,e1]
      refine hK (i + 1, t2, ⟨g, po, da, ⟨0, tn, tf⟩, y⟩) _ _ ⟨by omega, hn1, hn2, ?_⟩ (by simp only; omega) (Wk.slots' rfl (by simp [wkS, Ch.get]))
      rw [hrun, hm2]
      simp only [Prod.mk.injEq, true_and]
      omega
    · rw [if_neg h5] at hrun
      simp only [go_sem,Nat.reduceAdd,Nat.reduceSub,Nat.reduceMul,Nat.reduceEqDiff,Nat.reduceLeDiff,Nat.reduceLT,↓reduceIte,Int.reduceToNat,reduceCtorEq,Int.reduceLT,Int.reduceLE,Int.reduceGT,Int.reduceGE,Int.reduceEq,Int.reduceNe,Int.reduceNeg,Int.reduceAdd,Int.reduceSub,Eff.av,Eff.cells,Eff.cellsD,h5]
      refine draw [.qu 0 0, .rd 0 1, .qu 0 2, .mn 0, .mn 1, .qu 2 2, .qu 2 2] (by kernel_rfl) (by kernel_rfl) ?_
      simp only [go_sem,Nat.reduceAdd,Nat.reduceSub,Nat.reduceMul,Nat.reduceEqDiff,Nat.reduceLeDiff,Nat.reduceLT,↓reduceIte,Int.reduceToNat,reduceCtorEq,Int.reduceLT,Int.reduceLE,Int.reduceGT,Int.reduceGE,Int.reduceEq,Int.reduceNe,Int.reduceNeg,Int.reduceAdd,Int.reduceSub]
      exact fin t f i _ (by rw [hrun]; simp)
  · simp only [go_sem,Nat.reduceAdd,Nat.reduceSub,Nat.reduceMul,Nat.reduceEqDiff,Nat.reduceLeDiff,Nat.reduceLT,↓reduceIte,Int.reduceToNat,reduceCtorEq,Int.reduceLT,Int.reduceLE,Int.reduceGT,Int.reduceGE,Int.reduceEq,Int.reduceNe,Int.reduceNeg,Int.reduceAdd,Int.reduceSub]
    have : i = n := by omega
    subst this
    rw [Nat.sub_self] at hrun
    refine draw [.qu 0 0, .rd 0 1, .qu 0 2, .mn 0, .mn 1, .qu 2 2, .qu 2 2] (by kernel_rfl) (by kernel_rfl) ?_
    simp only [go_sem,Nat.reduceAdd,Nat.reduceSub,Nat.reduceMul,Nat.reduceEqDiff,Nat.reduceLeDiff,Nat.reduceLT,↓reduceIte,Int.reduceToNat,reduceCtorEq,Int.reduceLT,Int.reduceLE,Int.reduceGT,Int.reduceGE,Int.reduceEq,Int.reduceNe,Int.reduceNeg,Int.reduceAdd,Int.reduceSub,Eff.cells,Eff.cellsD]
    exact fin t e i _ (by rw [hrun]; simp [run])
end Go.Proofs.YtojfnagfafoiaaaDoor
