/- cpu: branches; the statement CpuBranches. No condition. -/
import Derived.Test.YtojfnagfafoiaaaDoorSE
set_option maxRecDepth 100000
set_option linter.unusedVariables false
set_option linter.unusedSimpArgs false
namespace Go.Proofs.YtojfnagfafoiaaaDoor
open Go.AM
theorem ops35 {op : Int} (h : isOp op = true) : op = 76 ∨ op = 1 ∨ op = 2 ∨ op = 3 ∨ op = 4 ∨ op = 5 ∨ op = 6 ∨ op = 7 ∨ op = 8 ∨ op = 9 ∨ op = 10 ∨ op = 11 ∨ op = 12 ∨ op = 13 ∨ op = 14 ∨ op = 15 ∨ op = 16 ∨ op = 17 ∨ op = 18 ∨ op = 19 ∨ op = 20 ∨ op = 21 ∨ op = 22 ∨ op = 23 ∨ op = 24 ∨ op = 25 ∨ op = 26 ∨ op = 27 ∨ op = 28 ∨ op = 29 ∨ op = 30 ∨ op = 31 ∨ op = 32 ∨ op = 33 ∨ op = 34 := by
  rcases opcases h with h | ⟨k, h1, h2, h3⟩ <;> omega
theorem exec_f {x : Ins} {s : Sp} {r : Rg} (hf : ¬ (ffault s (foot x r)).kind = 0) : exec x s r = ⟨r, 0, [], ⟨3, 0, ffault s (foot x r)⟩, x⟩ := by
  unfold exec effect
  rw [if_pos hf]
  rfl
theorem br_plain {x : Ins} {s : Sp} {r : Rg} (hx : x.ok) (h0 : (exec x s r).trap.kind = 0) :
    (isBr x.op = true → taken x r = true → (exec x s r).rg.pc = iw .i64 (iw .i64 (r.pc + x.len) + x.imm)) ∧ (taken x r = false → (exec x s r).rg.pc = iw .i64 (r.pc + x.len)) := by
  by_cases hf : (ffault s (foot x r)).kind = 0
  · have ho := ops35 hx.op
    obtain ⟨op, a, b, imm⟩ := x
    simp only at ho
    unfold exec effect at h0 ⊢
    rw [if_neg (by simp [hf])] at h0 ⊢
    rcases ho with rfl | rfl | rfl | rfl | rfl | rfl | rfl | rfl | rfl | rfl | rfl | rfl | rfl | rfl | rfl | rfl | rfl | rfl | rfl | rfl | rfl | rfl | rfl | rfl | rfl | rfl | rfl | rfl | rfl | rfl | rfl | rfl | rfl | rfl | rfl
    all_goals simp [isAlu, tabR, isBr, Res.eff, Pr.setA, Rg.set, Pr.toPc, Pr.p1, Pr.start, Pr.set7] at h0 ⊢
    all_goals first
      | (simp [taken]; done)
      | (generalize alu _ _ _ = v at h0 ⊢
         cases v <;> simp [taken] at h0 ⊢; done)
      | (generalize taken _ r = v at h0 ⊢
         cases v <;> simp at h0 ⊢; done)
  · rw [exec_f hf] at h0; simp at h0
/-- What Exec and Step return, whatever they are given. -/
def ef (x : Ins) (s : Sp) : Int := if s.ok then (if x.ok then 0 else 20) else 30
def exE (x : Ins) (s : Sp) (r : Rg) : Eff := if s.ok ∧ x.ok then exec x s r else eff0
theorem Exec_a (x : Ins) (s : Sp) (r : Rg) (hr : r.wf) : ACalls Tryd.prog 17 [x.av, s.av, r.av] [] (fun o H => o = .ret (.tuple [(exE x s r).av, iv (ef x s)]) ∧ H = []) := by
  unfold exE ef
  by_cases hs : s.ok
  · by_cases hx : x.ok
    · rw [if_pos ⟨hs, hx⟩, if_pos hs, if_pos hx]; exact Exec_c x hx s hs r hr
    · rw [if_neg (fun h => hx h.2), if_pos hs, if_neg hx]; exact Exec_n x hx s hs r
  · rw [if_neg (fun h => hs h.1), if_neg hs]; exact Exec_s x s hs r
def stE (s : Sp) (r : Rg) : Eff := if s.ok then step s r else eff0
theorem Step_a (s : Sp) (r : Rg) (hr : r.wf) : ACalls Tryd.prog 18 [s.av, r.av] [] (fun o H => o = .ret (.tuple [(stE s r).av, iv s.chk]) ∧ H = []) := by
  unfold stE Sp.chk
  by_cases hs : s.ok
  · rw [if_pos hs, if_pos hs]; exact Step_c s hs r hr
  · rw [if_neg hs, if_neg hs]; exact Step_s s hs r
theorem ef0 {x : Ins} {s : Sp} (h : ef x s = 0) : s.ok ∧ x.ok := by
  unfold ef at h
  split at h
  · split at h
    · exact ⟨by assumption, by assumption⟩
    · cases h
  · cases h
theorem exE0 {x : Ins} {s : Sp} {r : Rg} (h : ef x s = 0) : exE x s r = exec x s r := if_pos (ef0 h)
theorem next_a {x : Ins} (hx : x.ok) (pc : Int) : ACalls Tryd.prog 31 [x.av, iv pc] [] (fun o H => o = .ret (.tuple [iv (iw .i64 (pc + x.len)), iv 0]) ∧ H = []) := next_c x hx pc
theorem Taken_a {x : Ins} (hx : x.ok) (r : Rg) : ACalls Tryd.prog 32 [x.av, r.av] [] (fun o H => o = .ret (.tuple [.bool (taken x r), iv 0]) ∧ H = []) := by
  have h := Taken_c x r
  rwa [show (decide x.ok && taken x r) = taken x r by simp [hx], show x.chk = 0 by rw [Ins.chk, if_pos hx]] at h
theorem CpuBranches_c (x : Ins) (s : Sp) (r : Rg) (hr : r.wf) :
    ACalls Tryd.prog 8 [x.av, .agg (.view false 1 (s.perm.map r1) :: .view false 1 (s.byt.map rb) :: r.cells)] [] (fun o H => o = .ret (.bool true) ∧ H = []) := by
  refine ACalls.up ?_
  refine ACalls.intro (cs := []) (n := 83) Tryd.func8 rfl rfl rfl (by kernel_rfl) rfl ?_
  generalize hpost : (fun (o : Out) (H : Heap) => o = Out.ret (.bool true) ∧ H = []) = post
  have fin : ∀ H, Up 0 post (.ret (.bool true)) H := fun H => finv rfl (by rw [← hpost]; exact ⟨rfl, rfl⟩) H
  simp only [go_sem,Nat.reduceAdd,Nat.reduceSub,Nat.reduceMul,Nat.reduceEqDiff,Nat.reduceLeDiff,Nat.reduceLT,↓reduceIte,Int.reduceToNat,reduceCtorEq,Int.reduceLT,Int.reduceLE,Int.reduceGT,Int.reduceGE,Int.reduceEq,Int.reduceNe,Int.reduceNeg,Int.reduceAdd,Int.reduceSub,Rg.cells,Ins.av,Ins.cells]
  refine rK_use (enters_of Tryd.func16 rfl (by decide)) (ACalls.pure_use (sane_c) rfl rfl) ?_
  simp only [go_sem,Nat.reduceAdd,Nat.reduceSub,Nat.reduceMul,Nat.reduceEqDiff,Nat.reduceLeDiff,Nat.reduceLT,↓reduceIte,Int.reduceToNat,reduceCtorEq,Int.reduceLT,Int.reduceLE,Int.reduceGT,Int.reduceGE,Int.reduceEq,Int.reduceNe,Int.reduceNeg,Int.reduceAdd,Int.reduceSub]
  refine rK_use (enters_of Tryd.func17 rfl (by decide)) (ACalls.pure_use (Exec_a x s r hr) rfl (by simp [AV.lt, ltL, Eff.av_lt])) ?_
  rcases Decidable.em (ef x s = 0) with hf | hf
  rotate_left
  · simp only [go_sem,Nat.reduceAdd,Nat.reduceSub,Nat.reduceMul,Nat.reduceEqDiff,Nat.reduceLeDiff,Nat.reduceLT,↓reduceIte,Int.reduceToNat,reduceCtorEq,Int.reduceLT,Int.reduceLE,Int.reduceGT,Int.reduceGE,Int.reduceEq,Int.reduceNe,Int.reduceNeg,Int.reduceAdd,Int.reduceSub,Eff.av,Eff.cells,Eff.cellsD,hf]
    exact fin _
  · rw [exE0 hf]
    have hx := (ef0 hf).2
    rcases Decidable.em ((exec x s r).trap.kind = 0) with h0 | h0
    rotate_left
    · simp only [go_sem,Nat.reduceAdd,Nat.reduceSub,Nat.reduceMul,Nat.reduceEqDiff,Nat.reduceLeDiff,Nat.reduceLT,↓reduceIte,Int.reduceToNat,reduceCtorEq,Int.reduceLT,Int.reduceLE,Int.reduceGT,Int.reduceGE,Int.reduceEq,Int.reduceNe,Int.reduceNeg,Int.reduceAdd,Int.reduceSub,Eff.av,Eff.cells,Eff.cellsD,hf,h0]
      exact fin _
    · obtain ⟨p1, p2⟩ := br_plain hx h0
      generalize exec x s r = e at *
      simp only [go_sem,Nat.reduceAdd,Nat.reduceSub,Nat.reduceMul,Nat.reduceEqDiff,Nat.reduceLeDiff,Nat.reduceLT,↓reduceIte,Int.reduceToNat,reduceCtorEq,Int.reduceLT,Int.reduceLE,Int.reduceGT,Int.reduceGE,Int.reduceEq,Int.reduceNe,Int.reduceNeg,Int.reduceAdd,Int.reduceSub,Eff.av,Eff.cells,Eff.cellsD,hf,h0]
      refine rK_use (enters_of Tryd.func31 rfl (by decide)) (ACalls.pure_use (next_a hx r.pc) rfl rfl) ?_
      simp only [go_sem,Nat.reduceAdd,Nat.reduceSub,Nat.reduceMul,Nat.reduceEqDiff,Nat.reduceLeDiff,Nat.reduceLT,↓reduceIte,Int.reduceToNat,reduceCtorEq,Int.reduceLT,Int.reduceLE,Int.reduceGT,Int.reduceGE,Int.reduceEq,Int.reduceNe,Int.reduceNeg,Int.reduceAdd,Int.reduceSub]
      refine rK_use (enters_of Tryd.func38 rfl (by decide)) (ACalls.pure_use (target_c x (iw .i64 (r.pc + x.len))) rfl rfl) ?_
      simp only [go_sem,Nat.reduceAdd,Nat.reduceSub,Nat.reduceMul,Nat.reduceEqDiff,Nat.reduceLeDiff,Nat.reduceLT,↓reduceIte,Int.reduceToNat,reduceCtorEq,Int.reduceLT,Int.reduceLE,Int.reduceGT,Int.reduceGE,Int.reduceEq,Int.reduceNe,Int.reduceNeg,Int.reduceAdd,Int.reduceSub]
      refine rK_use (enters_of Tryd.func32 rfl (by decide)) (ACalls.pure_use (Taken_a hx r) rfl rfl) ?_
      have ht : x.hasT = isBr x.op := by simp [Ins.hasT, hx]
      have hg : isBr x.op = true → x.tgt (iw .i64 (r.pc + x.len)) = iw .i64 (iw .i64 (r.pc + x.len) + x.imm) := fun h => by rw [Ins.tgt, if_pos ⟨hx, h⟩]
      rw [ht]
      cases h1 : isBr x.op with
      | true =>
        rw [hg h1]
        cases h2 : taken x r with
        | true =>
          simp only [go_sem,Nat.reduceAdd,Nat.reduceSub,Nat.reduceMul,Nat.reduceEqDiff,Nat.reduceLeDiff,Nat.reduceLT,↓reduceIte,Int.reduceToNat,reduceCtorEq,Int.reduceLT,Int.reduceLE,Int.reduceGT,Int.reduceGE,Int.reduceEq,Int.reduceNe,Int.reduceNeg,Int.reduceAdd,Int.reduceSub,p1 h1 h2]
          exact fin _
        | false =>
          simp only [go_sem,Nat.reduceAdd,Nat.reduceSub,Nat.reduceMul,Nat.reduceEqDiff,Nat.reduceLeDiff,Nat.reduceLT,↓reduceIte,Int.reduceToNat,reduceCtorEq,Int.reduceLT,Int.reduceLE,Int.reduceGT,Int.reduceGE,Int.reduceEq,Int.reduceNe,Int.reduceNeg,Int.reduceAdd,Int.reduceSub,p2 h2]
          exact fin _
      | false =>
        cases h2 : taken x r with
        | true =>
          simp only [go_sem,Nat.reduceAdd,Nat.reduceSub,Nat.reduceMul,Nat.reduceEqDiff,Nat.reduceLeDiff,Nat.reduceLT,↓reduceIte,Int.reduceToNat,reduceCtorEq,Int.reduceLT,Int.reduceLE,Int.reduceGT,Int.reduceGE,Int.reduceEq,Int.reduceNe,Int.reduceNeg,Int.reduceAdd,Int.reduceSub]
          exact fin _
        | false =>
          simp only [go_sem,Nat.reduceAdd,Nat.reduceSub,Nat.reduceMul,Nat.reduceEqDiff,Nat.reduceLeDiff,Nat.reduceLT,↓reduceIte,Int.reduceToNat,reduceCtorEq,Int.reduceLT,Int.reduceLE,Int.reduceGT,Int.reduceGE,Int.reduceEq,Int.reduceNe,Int.reduceNeg,Int.reduceAdd,Int.reduceSub,p2 h2]
          exact fin _
end Go.Proofs.YtojfnagfafoiaaaDoor
