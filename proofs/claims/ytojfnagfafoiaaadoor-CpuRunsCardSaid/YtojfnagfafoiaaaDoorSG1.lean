/- cpu: comparing effects. No condition. -/
import Derived.Test.YtojfnagfafoiaaaDoorSF
set_option maxRecDepth 100000
set_option linter.unusedVariables false
set_option linter.unusedSimpArgs false
namespace Go.Proofs.YtojfnagfafoiaaaDoor
open Go.AM
theorem ba_eq (a b : List UInt8) : ((⟨a.toArray⟩ : ByteArray).toList == (⟨b.toArray⟩ : ByteArray).toList) = decide (a = b) := by
  rw [ByteArray.toList_eq, ByteArray.toList_eq]
  by_cases h : a = b <;> simp [h]
theorem bEqual_c (a b : List UInt8) : ACalls Tryd.prog 64 [dby a, dby b] [] (fun o H => o = .ret (.bool (decide (a = b))) ∧ H = []) := by
  refine ACalls.up ?_
  refine ACalls.intro (cs := []) (n := 10) Tryd.func64 rfl rfl rfl (by kernel_rfl) rfl ?_
  generalize hpost : (fun (o : Out) (H : Heap) => o = Out.ret (.bool (decide (a = b))) ∧ H = []) = post
  simp only [go_sem,Nat.reduceAdd,Nat.reduceSub,Nat.reduceMul,Nat.reduceEqDiff,Nat.reduceLeDiff,Nat.reduceLT,↓reduceIte,Int.reduceToNat,reduceCtorEq,Int.reduceLT,Int.reduceLE,Int.reduceGT,Int.reduceGE,Int.reduceEq,Int.reduceNe,Int.reduceNeg,Int.reduceAdd,Int.reduceSub,ba_eq]
  refine finv (v := .bool (decide (a = b))) rfl ?_ _
  rw [← hpost]
  exact ⟨rfl, rfl⟩
def sameR (a b : Rg) : Bool := decide (a.r0 = b.r0) && (decide (a.r1 = b.r1) && (decide (a.r2 = b.r2) && (decide (a.r3 = b.r3) && (decide (a.r4 = b.r4) && (decide (a.r5 = b.r5) && (decide (a.r6 = b.r6) && (decide (a.r7 = b.r7) && decide (a.pc = b.pc))))))))
def sameT (a b : Trp) : Bool := decide (a.kind = b.kind) && (decide (a.n = b.n) && (decide (a.f.kind = b.f.kind) && decide (a.f.pos = b.f.pos)))
def sameI (a b : Ins) : Bool := decide (a.op = b.op) && (decide (a.a = b.a) && (decide (a.b = b.b) && decide (a.imm = b.imm)))
def sameE (a b : Eff) : Bool := sameR a.rg b.rg && decide (a.pos = b.pos) && decide (a.data = b.data) && sameT a.trap b.trap && sameI a.x b.x
theorem sameE_self (a : Eff) : sameE a a = true := by simp [sameE, sameR, sameT, sameI]
theorem Same_c (a b : Eff) : ACalls Tryd.prog 25 [a.av, b.av] [] (fun o H => o = .ret (.bool (sameE a b)) ∧ H = []) := by
  refine ACalls.up ?_
  refine ACalls.intro (cs := []) (n := 38) Tryd.func25 rfl rfl rfl (by kernel_rfl) rfl ?_
  generalize hpost : (fun (o : Out) (H : Heap) => o = Out.ret (.bool (sameE a b)) ∧ H = []) = post
  have fin : ∀ v H, v = sameE a b → Up 0 post (.ret (.bool v)) H := fun v H h => finv rfl (by rw [← hpost, ← h]; exact ⟨rfl, rfl⟩) H
  simp only [go_sem,Nat.reduceAdd,Nat.reduceSub,Nat.reduceMul,Nat.reduceEqDiff,Nat.reduceLeDiff,Nat.reduceLT,↓reduceIte,Int.reduceToNat,reduceCtorEq,Int.reduceLT,Int.reduceLE,Int.reduceGT,Int.reduceGE,Int.reduceEq,Int.reduceNe,Int.reduceNeg,Int.reduceAdd,Int.reduceSub,Eff.av,Eff.cells,Eff.cellsD]
  repeat' (first | (refine gD_dec (fun hg => ?_) (fun hg => ?_) <;> simp only [go_sem,Nat.reduceAdd,Nat.reduceSub,Nat.reduceMul,Nat.reduceEqDiff,Nat.reduceLeDiff,Nat.reduceLT,↓reduceIte,Int.reduceToNat,reduceCtorEq,Int.reduceLT,Int.reduceLE,Int.reduceGT,Int.reduceGE,Int.reduceEq,Int.reduceNe,Int.reduceNeg,Int.reduceAdd,Int.reduceSub,hg,Eff.av]) | (refine condD_dec (fun hg => ?_) (fun hg => ?_) <;> simp only [go_sem,Nat.reduceAdd,Nat.reduceSub,Nat.reduceMul,Nat.reduceEqDiff,Nat.reduceLeDiff,Nat.reduceLT,↓reduceIte,Int.reduceToNat,reduceCtorEq,Int.reduceLT,Int.reduceLE,Int.reduceGT,Int.reduceGE,Int.reduceEq,Int.reduceNe,Int.reduceNeg,Int.reduceAdd,Int.reduceSub,hg,Eff.av]) | (refine rK_use (enters_of Tryd.func64 rfl (by decide)) (ACalls.pure_use (bEqual_c a.data b.data) rfl rfl) ?_; simp only [go_sem,Nat.reduceAdd,Nat.reduceSub,Nat.reduceMul,Nat.reduceEqDiff,Nat.reduceLeDiff,Nat.reduceLT,↓reduceIte,Int.reduceToNat,reduceCtorEq,Int.reduceLT,Int.reduceLE,Int.reduceGT,Int.reduceGE,Int.reduceEq,Int.reduceNe,Int.reduceNeg,Int.reduceAdd,Int.reduceSub,Eff.av]) | (refine gD_bool (fun hg => ?_) (fun hg => ?_) <;> simp only [go_sem,Nat.reduceAdd,Nat.reduceSub,Nat.reduceMul,Nat.reduceEqDiff,Nat.reduceLeDiff,Nat.reduceLT,↓reduceIte,Int.reduceToNat,reduceCtorEq,Int.reduceLT,Int.reduceLE,Int.reduceGT,Int.reduceGE,Int.reduceEq,Int.reduceNe,Int.reduceNeg,Int.reduceAdd,Int.reduceSub,hg,Eff.av]) | (refine condD_bool (fun hg => ?_) (fun hg => ?_) <;> simp only [go_sem,Nat.reduceAdd,Nat.reduceSub,Nat.reduceMul,Nat.reduceEqDiff,Nat.reduceLeDiff,Nat.reduceLT,↓reduceIte,Int.reduceToNat,reduceCtorEq,Int.reduceLT,Int.reduceLE,Int.reduceGT,Int.reduceGE,Int.reduceEq,Int.reduceNe,Int.reduceNeg,Int.reduceAdd,Int.reduceSub,hg,Eff.av]))
  all_goals exact fin _ _ (by simp only [sameE, sameR, sameT, sameI, Bool.false_and, Bool.and_false, Bool.true_and, Bool.and_true, decide_true, decide_false, *])
theorem rSame_c (a b : Eff) : ACalls Tryd.prog 21 [a.av, b.av] [] (fun o H => o = .ret (.bool (sameE a b)) ∧ H = []) := by
  refine ACalls.up ?_
  refine ACalls.intro (cs := []) (n := 40) Tryd.func21 rfl rfl rfl (by kernel_rfl) rfl ?_
  generalize hpost : (fun (o : Out) (H : Heap) => o = Out.ret (.bool (sameE a b)) ∧ H = []) = post
  have fin : ∀ v H, v = sameE a b → Up 0 post (.ret (.bool v)) H := fun v H h => finv rfl (by rw [← hpost, ← h]; exact ⟨rfl, rfl⟩) H
  simp only [go_sem,Nat.reduceAdd,Nat.reduceSub,Nat.reduceMul,Nat.reduceEqDiff,Nat.reduceLeDiff,Nat.reduceLT,↓reduceIte,Int.reduceToNat,reduceCtorEq,Int.reduceLT,Int.reduceLE,Int.reduceGT,Int.reduceGE,Int.reduceEq,Int.reduceNe,Int.reduceNeg,Int.reduceAdd,Int.reduceSub,Eff.av,Eff.cells,Eff.cellsD]
  repeat' (first | (refine gD_dec (fun hg => ?_) (fun hg => ?_) <;> simp only [go_sem,Nat.reduceAdd,Nat.reduceSub,Nat.reduceMul,Nat.reduceEqDiff,Nat.reduceLeDiff,Nat.reduceLT,↓reduceIte,Int.reduceToNat,reduceCtorEq,Int.reduceLT,Int.reduceLE,Int.reduceGT,Int.reduceGE,Int.reduceEq,Int.reduceNe,Int.reduceNeg,Int.reduceAdd,Int.reduceSub,hg,ba_eq]) | (refine condD_dec (fun hg => ?_) (fun hg => ?_) <;> simp only [go_sem,Nat.reduceAdd,Nat.reduceSub,Nat.reduceMul,Nat.reduceEqDiff,Nat.reduceLeDiff,Nat.reduceLT,↓reduceIte,Int.reduceToNat,reduceCtorEq,Int.reduceLT,Int.reduceLE,Int.reduceGT,Int.reduceGE,Int.reduceEq,Int.reduceNe,Int.reduceNeg,Int.reduceAdd,Int.reduceSub,hg,ba_eq]) | (refine gD_bool (fun hg => ?_) (fun hg => ?_) <;> simp only [go_sem,Nat.reduceAdd,Nat.reduceSub,Nat.reduceMul,Nat.reduceEqDiff,Nat.reduceLeDiff,Nat.reduceLT,↓reduceIte,Int.reduceToNat,reduceCtorEq,Int.reduceLT,Int.reduceLE,Int.reduceGT,Int.reduceGE,Int.reduceEq,Int.reduceNe,Int.reduceNeg,Int.reduceAdd,Int.reduceSub,hg,ba_eq]) | (refine condD_bool (fun hg => ?_) (fun hg => ?_) <;> simp only [go_sem,Nat.reduceAdd,Nat.reduceSub,Nat.reduceMul,Nat.reduceEqDiff,Nat.reduceLeDiff,Nat.reduceLT,↓reduceIte,Int.reduceToNat,reduceCtorEq,Int.reduceLT,Int.reduceLE,Int.reduceGT,Int.reduceGE,Int.reduceEq,Int.reduceNe,Int.reduceNeg,Int.reduceAdd,Int.reduceSub,hg,ba_eq]))
  all_goals exact fin _ _ (by simp only [sameE, sameR, sameT, sameI, Bool.false_and, Bool.and_false, Bool.true_and, Bool.and_true, decide_true, decide_false, *])
end Go.Proofs.YtojfnagfafoiaaaDoor
