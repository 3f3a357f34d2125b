/- cpu: the reference, Step. No condition. -/
import Derived.Test.YtojfnagfafoiaaaDoorSL
set_option maxRecDepth 100000
set_option linter.unusedVariables false
set_option linter.unusedSimpArgs false
namespace Go.Proofs.YtojfnagfafoiaaaDoor
open Go.AM
theorem rstep_c (s : Sp) (hs : s.ok) (r : Rg) (hr : r.wf) :
    ACalls Tryd.prog 23 [s.av, r.av] [] (fun u H => u = .ret (step s r).av ∧ H = []) := by
  refine ACalls.up ?_
  refine ACalls.intro (cs := []) (n := 41) Tryd.func23 rfl rfl rfl (by kernel_rfl) rfl ?_
  generalize hpost : (fun (u : Out) (H : Heap) => u = Out.ret (step s r).av ∧ H = []) = post
  have fin : ∀ (e : Eff) H, e = step s r → Up 0 post (.ret e.av) H := fun e H h => finv (Eff.av_lt e 0) (by rw [← hpost, ← h]; exact ⟨rfl, rfl⟩) H
  simp only [go_sem,Nat.reduceAdd,Nat.reduceSub,Nat.reduceMul,Nat.reduceEqDiff,Nat.reduceLeDiff,Nat.reduceLT,↓reduceIte,Int.reduceToNat,reduceCtorEq,Int.reduceLT,Int.reduceLE,Int.reduceGT,Int.reduceGE,Int.reduceEq,Int.reduceNe,Int.reduceNeg,Int.reduceAdd,Int.reduceSub,Sp.av,Rg.av,Rg.cells]
  refine rK_use (enters_of Tryd.func59 rfl (by decide)) (ACalls.pure_use (rfetched_c s hs r.pc 12 (by decide)) rfl (by simp [AV.lt])) ?_
  have hbl := s.fet_len r.pc 12 0
  have hst : step s r = (if (dec (s.fet r.pc 12 0)).e = 0 then exec (dec (s.fet r.pc 12 0)).x s r
    else if (dec (s.fet r.pc 12 0)).e = 21 then ⟨r, 0, [], ⟨3, 0, s.flt r.pc 4 ((s.fet r.pc 12 0).length + 1) 0⟩, x0⟩
    else ⟨r, 0, [], ⟨4, 0, ⟨0, 0⟩⟩, x0⟩) := rfl
  generalize hb : s.fet r.pc 12 0 = b at *
  simp only [go_sem,Nat.reduceAdd,Nat.reduceSub,Nat.reduceMul,Nat.reduceEqDiff,Nat.reduceLeDiff,Nat.reduceLT,↓reduceIte,Int.reduceToNat,reduceCtorEq,Int.reduceLT,Int.reduceLE,Int.reduceGT,Int.reduceGE,Int.reduceEq,Int.reduceNe,Int.reduceNeg,Int.reduceAdd,Int.reduceSub]
  refine rK_use (enters_of Tryd.func60 rfl (by decide)) (ACalls.pure_use (rdecode_c b (by omega)) rfl (by simp [Dec.rav, AV.lt, ltL, Ins.av, Ins.cells])) ?_
  rcases dec_e b with he | he | he
  · rw [if_pos he] at hst
    have hx := dec_ok he
    generalize hd : dec b = d at *
    obtain ⟨x, n, e⟩ := d
    simp only at he hst hx
    subst he
    simp only [go_sem,Nat.reduceAdd,Nat.reduceSub,Nat.reduceMul,Nat.reduceEqDiff,Nat.reduceLeDiff,Nat.reduceLT,↓reduceIte,Int.reduceToNat,reduceCtorEq,Int.reduceLT,Int.reduceLE,Int.reduceGT,Int.reduceGE,Int.reduceEq,Int.reduceNe,Int.reduceNeg,Int.reduceAdd,Int.reduceSub,Dec.rav,Ins.av,Ins.cells]
    refine rK_use (enters_of Tryd.func22 rfl (by decide)) (ACalls.pure_use (rexec_c x hx s hs r hr) rfl (Eff.av_lt _ _)) ?_
    simp only [go_sem,Nat.reduceAdd,Nat.reduceSub,Nat.reduceMul,Nat.reduceEqDiff,Nat.reduceLeDiff,Nat.reduceLT,↓reduceIte,Int.reduceToNat,reduceCtorEq,Int.reduceLT,Int.reduceLE,Int.reduceGT,Int.reduceGE,Int.reduceEq,Int.reduceNe,Int.reduceNeg,Int.reduceAdd,Int.reduceSub,Eff.av,Eff.cells,Eff.cellsD]
    exact fin (exec x s r) _ hst.symm
  · rw [he, if_neg (by decide), if_neg (by decide)] at hst
    generalize hd : dec b = d at *
    obtain ⟨x, n, e⟩ := d
    simp only at he
    subst he
    simp only [go_sem,Nat.reduceAdd,Nat.reduceSub,Nat.reduceMul,Nat.reduceEqDiff,Nat.reduceLeDiff,Nat.reduceLT,↓reduceIte,Int.reduceToNat,reduceCtorEq,Int.reduceLT,Int.reduceLE,Int.reduceGT,Int.reduceGE,Int.reduceEq,Int.reduceNe,Int.reduceNeg,Int.reduceAdd,Int.reduceSub,Dec.rav,Ins.av,Ins.cells]
    refine rK_use (enters_of Tryd.func56 rfl (by decide)) (ACalls.pure_use (trapped_c x0 r ⟨4, 0, ⟨0, 0⟩⟩) rfl (Eff.av_lt _ _)) ?_
    simp only [go_sem,Nat.reduceAdd,Nat.reduceSub,Nat.reduceMul,Nat.reduceEqDiff,Nat.reduceLeDiff,Nat.reduceLT,↓reduceIte,Int.reduceToNat,reduceCtorEq,Int.reduceLT,Int.reduceLE,Int.reduceGT,Int.reduceGE,Int.reduceEq,Int.reduceNe,Int.reduceNeg,Int.reduceAdd,Int.reduceSub,Eff.av,Eff.cells,Eff.cellsD,trE]
    exact fin (trE x0 r ⟨4, 0, ⟨0, 0⟩⟩) _ hst.symm
  · rw [he, if_neg (by decide), if_pos rfl] at hst
    have e1 : iw .i64 ((b.length : Int) + 1) = ((b.length + 1 : Nat) : Int) := by rw [iw64] <;> omega
    generalize hd : dec b = d at *
    obtain ⟨x, n, e⟩ := d
    simp only at he
    subst he
    simp only [go_sem,Nat.reduceAdd,Nat.reduceSub,Nat.reduceMul,Nat.reduceEqDiff,Nat.reduceLeDiff,Nat.reduceLT,↓reduceIte,Int.reduceToNat,reduceCtorEq,Int.reduceLT,Int.reduceLE,Int.reduceGT,Int.reduceGE,Int.reduceEq,Int.reduceNe,Int.reduceNeg,Int.reduceAdd,Int.reduceSub,Dec.rav,Ins.av,Ins.cells,List.length_map,e1]
    refine rK_use (enters_of Tryd.func61 rfl (by decide)) (ACalls.pure_use (rfault_c s hs r.pc 4 (b.length + 1) (by omega) (by simp)) rfl rfl) ?_
    simp only [go_sem,Nat.reduceAdd,Nat.reduceSub,Nat.reduceMul,Nat.reduceEqDiff,Nat.reduceLeDiff,Nat.reduceLT,↓reduceIte,Int.reduceToNat,reduceCtorEq,Int.reduceLT,Int.reduceLE,Int.reduceGT,Int.reduceGE,Int.reduceEq,Int.reduceNe,Int.reduceNeg,Int.reduceAdd,Int.reduceSub,Flt.cells]
    refine rK_use (enters_of Tryd.func56 rfl (by decide)) (ACalls.pure_use (trapped_c x0 r ⟨3, 0, s.flt r.pc 4 (b.length + 1) 0⟩) rfl (Eff.av_lt _ _)) ?_
    simp only [go_sem,Nat.reduceAdd,Nat.reduceSub,Nat.reduceMul,Nat.reduceEqDiff,Nat.reduceLeDiff,Nat.reduceLT,↓reduceIte,Int.reduceToNat,reduceCtorEq,Int.reduceLT,Int.reduceLE,Int.reduceGT,Int.reduceGE,Int.reduceEq,Int.reduceNe,Int.reduceNeg,Int.reduceAdd,Int.reduceSub,Eff.av,Eff.cells,Eff.cellsD,trE]
    exact fin (trE x0 r ⟨3, 0, s.flt r.pc 4 (b.length + 1) 0⟩) _ hst.symm
end Go.Proofs.YtojfnagfafoiaaaDoor
