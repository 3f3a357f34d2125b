/- cpu: what the statements make. No condition. -/
import Derived.Test.YtojfnagfafoiaaaDoorSD
import Derived.Test.YtojfnagfafoiaaaDoorSA
import Derived.Test.YtojfnagfafoiaaaDoorSC
import Derived.Test.YtojfnagfafoiaaaDoorKE
import Derived.Test.YtojfnagfafoiaaaDoorTie
import Derived.Test.YtojfnagfafoiaaaDoorCards
import Derived.ProofKit
import Derived.OpenShut
import Derived.LaidMore
import Derived.Lay
import Derived.SevenTiedAt
import Derived.Stop.Joined
set_option maxRecDepth 100000
set_option linter.unusedVariables false
set_option linter.unusedSimpArgs false
namespace Go.Proofs.YtojfnagfafoiaaaDoor
open Go.AM
def zfill (b : List UInt8) : List UInt8 := b ++ List.replicate (128 - b.length) 0
def mix (b : List UInt8) (k : Nat) : List UInt8 := b.take k ++ List.replicate (128 - k) 0
theorem mix_len {b : List UInt8} (hb : b.length ≤ 128) {k : Nat} (hk : k ≤ b.length) : (mix b k).length = 128 := by simp [mix]; omega
theorem mix_set {b : List UInt8} {k : Nat} {c : UInt8} (hb : b.length ≤ 128) (h : b[k]? = some c) : (mix b k).set k c = mix b (k + 1) := by
  have hk := (List.getElem?_eq_some_iff.1 h).1
  have e : 128 - k = (128 - (k + 1)) + 1 := by omega
  unfold mix
  rw [e, List.replicate_succ, List.set_append_right _ _ (by simp; omega), List.take_add_one, h]
  have : k - (b.take k).length = 0 := by simp; omega
  rw [this]
  simp
def pgV : AV := .agg [.view false 1 [r1 4, r1 3], .sl 0 0 128 (some 128)]
theorem pages_c (b : List UInt8) (hb : b.length ≤ 128) :
    ACalls Tryd.prog 48 [.view false 1 (b.map rb)] [] (fun o H => o = .ret pgV ∧ H = [.rows 1 ((zfill b).map rb)]) := by
  refine ACalls.up ?_
  refine ACalls.intro (cs := []) (n := 23) Tryd.func48 rfl rfl rfl (by kernel_rfl) rfl ?_
  generalize hpost : (fun (o : Out) (H : Heap) => o = Out.ret pgV ∧ H = [.rows 1 ((zfill b).map rb)]) = post
  simp only [go_sem,Nat.reduceAdd,Nat.reduceSub,Nat.reduceMul,Nat.reduceEqDiff,Nat.reduceLeDiff,Nat.reduceLT,↓reduceIte,Int.reduceToNat,reduceCtorEq,Int.reduceLT,Int.reduceLE,Int.reduceGT,Int.reduceGE,Int.reduceEq,Int.reduceNe,Int.reduceNeg,Int.reduceAdd,Int.reduceSub,Int.reduceMul]
  refine loop_fam (fun k : Nat => ((((Ch.nil.put 0 (.view false 1 (b.map rb))).put 2 (.ptr 0 0 0)).put 3 (.ptr 3 0 0)).put 4 (iv k))) (fun k => [.rows 2 [[.view true 0 [], .view true 0 []]], .rows 1 [r1 4, r1 3], .rows 1 ((mix b k).map rb), .rows 2 [[.sl 1 0 2 (some 2), .sl 2 0 128 (some 128)]]]) (fun k => b.length - k) (fun k => k ≤ b.length) 0 (by kernel_rfl) (Nat.zero_le _)
    (Wk.slots' rfl (by simp [wkS, Ch.get])) ?_
  rintro k hk K hK
  simp only [go_sem,Nat.reduceAdd,Nat.reduceSub,Nat.reduceMul,Nat.reduceEqDiff,Nat.reduceLeDiff,Nat.reduceLT,↓reduceIte,Int.reduceToNat,reduceCtorEq,Int.reduceLT,Int.reduceLE,Int.reduceGT,Int.reduceGE,Int.reduceEq,Int.reduceNe,Int.reduceNeg,Int.reduceAdd,Int.reduceSub]
  refine condD_dec (fun hc => ?_) (fun hc => ?_)
  · simp only [List.length_map] at hc
    obtain ⟨c, hb2⟩ := at_lt (l := b) (i := k) (by omega)
    have e1 : iw .i64 ((k : Int) + 1) = ((k + 1 : Nat) : Int) := by rw [iw64] <;> omega
    have hl := mix_len hb hk
    obtain ⟨y, hy⟩ := at_lt (l := mix b k) (i := k) (by omega)
    refine draw [.qu 0 0, .qu 0 0, .qu 0 0, .qu 0 0, .qu 0 0, .qu 0 0, .qu 0 0, .qu 0 0, .mn 0] (by kernel_rfl) (by kernel_rfl) ?_
    simp only [go_sem,Nat.reduceAdd,Nat.reduceSub,Nat.reduceMul,Nat.reduceEqDiff,Nat.reduceLeDiff,Nat.reduceLT,↓reduceIte,Int.reduceToNat,reduceCtorEq,Int.reduceLT,Int.reduceLE,Int.reduceGT,Int.reduceGE,Int.reduceEq,Int.reduceNe,Int.reduceNeg,Int.reduceAdd,Int.reduceSub,e1,hl,hb2,hy,List.getElem?_map,List.length_map]
    have e2 : ((mix b k).map rb).set k [AV.int .u8 (c.toNat : Int)] = (mix b (k + 1)).map rb := by rw [← mix_set hb hb2, List.map_set]
    rw [e2]
    exact ⟨⟨by omega, by omega⟩, ⟨by omega, by omega⟩, by omega, hK (k + 1) _ _ (by omega) (by omega) (Wk.slots' rfl (by simp [wkS, Ch.get]))⟩
  · simp only [List.length_map] at hc
    have : k = b.length := by omega
    subst this
    have hl := mix_len hb (Nat.le_refl _)
    have hz : mix b b.length = zfill b := by simp [mix, zfill]
    simp only [go_sem,Nat.reduceAdd,Nat.reduceSub,Nat.reduceMul,Nat.reduceEqDiff,Nat.reduceLeDiff,Nat.reduceLT,↓reduceIte,Int.reduceToNat,reduceCtorEq,Int.reduceLT,Int.reduceLE,Int.reduceGT,Int.reduceGE,Int.reduceEq,Int.reduceNe,Int.reduceNeg,Int.reduceAdd,Int.reduceSub]
    refine .fz 1 1 [r1 4, r1 3] rfl (r1_pure [4, 3]) (by simp [Out.fzOk, AV.fzOk, fzOkL]) (by simp [Blk.fzOk, fzOkL, AV.fzOk]) ?_
    refine .pick [2] (o' := .ret pgV) (H' := [.rows 1 ((zfill b).map rb)]) (by decide) rfl ?_ (by simp [pgV, Out.fz, AV.fz, fzL, Out.ren, AV.ren, renL, pi]) (.done (by rw [← hpost]; exact ⟨rfl, rfl⟩))
    rw [← hz]
    simp [Blk.fz, Blk.ren, AV.fz, AV.ren]
theorem regs_c (a b c d : Int) :
    ACalls Tryd.prog 49 [iv a, iv b, iv c, iv d] [] (fun o H => o = .ret (Rg.av ⟨0, a, b, 0, 0, 0, 0, c, d⟩) ∧ H = []) := by
  refine ACalls.up ?_
  refine ACalls.intro (cs := []) (n := 22) Tryd.func49 rfl rfl rfl (by kernel_rfl) rfl ?_
  generalize hpost : (fun (o : Out) (H : Heap) => o = Out.ret (Rg.av ⟨0, a, b, 0, 0, 0, 0, c, d⟩) ∧ H = []) = post
  simp only [go_sem,Nat.reduceAdd,Nat.reduceSub,Nat.reduceMul,Nat.reduceEqDiff,Nat.reduceLeDiff,Nat.reduceLT,↓reduceIte,Int.reduceToNat,reduceCtorEq,Int.reduceLT,Int.reduceLE,Int.reduceGT,Int.reduceGE,Int.reduceEq,Int.reduceNe,Int.reduceNeg,Int.reduceAdd,Int.reduceSub]
  exact finv (v := Rg.av ⟨0, a, b, 0, 0, 0, 0, c, d⟩) (by simp [Rg.av, Rg.cells, AV.lt, ltL]) (by rw [← hpost]; exact ⟨rfl, rfl⟩) _
end Go.Proofs.YtojfnagfafoiaaaDoor

set_option maxRecDepth 100000
set_option linter.unusedVariables false
set_option linter.unusedSimpArgs false
namespace Go.Proofs.YtojfnagfafoiaaaDoor
open Go.AM
def pg (b : List UInt8) : Sp := ⟨[4, 3], zfill b⟩
theorem pg_ok (b : List UInt8) (hb : b.length ≤ 128) : (pg b).ok := ⟨by show (2 : Nat) ≤ 32; decide, by simp [pg, zfill]; omega, by show [4, 3].all okP = true; decide⟩
theorem pages_v (b : List UInt8) (hb : b.length ≤ 128) :
    ACalls Tryd.prog 48 [.view false 1 (b.map rb)] [] (fun o H => o = .ret (pg b).av ∧ H = []) := by
  refine ACalls.up ((pages_c b hb).mono ?_)
  rintro o H ⟨rfl, rfl⟩
  refine .fz 0 1 ((zfill b).map rb) rfl (rb_pure _) (by simp [pgV, Out.fzOk, AV.fzOk, fzOkL, zfill]; omega) (by simp [Blk.fzOk]) ?_
  have e : ((zfill b).map rb).take 128 = (zfill b).map rb := List.take_of_length_le (by simp [zfill]; omega)
  have e2 : (Out.ret pgV).fz 0 1 ((zfill b).map rb) = .ret (pg b).av := by simp [pgV, Out.fz, AV.fz, fzL, e, pg, Sp.av]
  rw [e2]
  exact finv (Sp.av_lt _ 0) ⟨rfl, rfl⟩ _
theorem pages_n :
    ACalls Tryd.prog 48 [.view true 0 []] [] (fun o H => o = .ret pgV ∧ H = [.rows 1 ((zfill []).map rb)]) :=
  (pages_c [] (by decide)).leA (.cons (.nil true false 0 1 (by simp)) .nil)
def tY : Sp := ⟨[4, 3], (zfill []).set 63 130⟩
def tZ : Sp := ⟨[4, 3], ((zfill []).set 63 130).set 0 5⟩
theorem tY_ok : tY.ok := by decide
theorem tZ_ok : tZ.ok := by decide
theorem regs_at (a b c d : Int) : Rg.av ⟨0, a, b, 0, 0, 0, 0, c, d⟩ = .agg [iv 0, iv a, iv b, iv 0, iv 0, iv 0, iv 0, iv c, iv d] := rfl
instance (n : Int) : Decidable (I64 n) := by unfold I64; exact inferInstance
theorem wf0 {r : Rg} (h : (r.pc :: r.list).all (fun x => decide (I64 x)) = true) : r.wf := by
  simp only [List.all_eq_true, decide_eq_true_eq] at h
  exact ⟨fun x hx => h x (List.mem_cons_of_mem _ hx), h _ (List.mem_cons_self ..)⟩
theorem sane_c : ACalls Tryd.prog 16 [] [] (fun o H => o = .ret (.bool true) ∧ H = []) := by
  refine ACalls.up ?_
  refine ACalls.intro (cs := []) (n := 188) Tryd.func16 rfl rfl rfl (by kernel_rfl) rfl ?_
  generalize hpost : (fun (o : Out) (H : Heap) => o = Out.ret (.bool true) ∧ H = []) = post
  obtain ⟨A, hA, a1, a2⟩ : ∃ A, exec ⟨5, 1, 2, 0⟩ (pg [130, 10]) ⟨0, 5, -7, 0, 0, 0, 0, 0, 0⟩ = A ∧ A.rg.r1 = -2 ∧ A.rg.pc = 2 := ⟨_, rfl, by kernel_rfl, by kernel_rfl⟩
  obtain ⟨B, hB, b1, b2, b3⟩ : ∃ B, exec ⟨30, 1, 0, 0⟩ (pg [130, 10]) ⟨0, 3, 0, 0, 0, 0, 0, 128, 0⟩ = B ∧ B.rg.r7 = 120 ∧ B.pos = 120 ∧ B.data = [3, 0, 0, 0, 0, 0, 0, 0] := ⟨_, rfl, by kernel_rfl, by kernel_rfl, by kernel_rfl⟩
  obtain ⟨C, hC, c1⟩ : ∃ C, exec ⟨30, 1, 0, 0⟩ (pg [130, 10]) ⟨0, 3, 0, 0, 0, 0, 0, 64, 0⟩ = C ∧ C.trap = ⟨3, 0, ⟨3, 56⟩⟩ := ⟨_, rfl, by kernel_rfl⟩
  obtain ⟨E, hE, d1⟩ : ∃ E, exec ⟨18, 1, 2, 1⟩ (pg [130, 10]) ⟨0, 0, 120, 0, 0, 0, 0, 0, 0⟩ = E ∧ E.trap = ⟨3, 0, ⟨1, 128⟩⟩ := ⟨_, rfl, by kernel_rfl⟩
  obtain ⟨X, hX, x1⟩ : ∃ X, step (pg [130, 10]) ⟨0, 0, 9, 0, 0, 0, 0, 0, 0⟩ = X ∧ X.rg.r1 = 9 := ⟨_, rfl, by kernel_rfl⟩
  obtain ⟨Y, hY, y1, y2⟩ : ∃ Y, step tY ⟨0, 0, 0, 0, 0, 0, 0, 0, 63⟩ = Y ∧ Y.trap.f = ⟨4, 64⟩ ∧ Y.data = [] := ⟨_, rfl, by kernel_rfl, by kernel_rfl⟩
  obtain ⟨Z, hZ, z1, z2⟩ : ∃ Z, step tZ ⟨0, 0, 0, 0, 0, 0, 0, 0, 0⟩ = Z ∧ Z.trap.kind = 4 ∧ Z.data = [] := ⟨_, rfl, by kernel_rfl, by kernel_rfl⟩
  have px := pg_ok [130, 10] (by decide)
  simp only [go_sem,Nat.reduceAdd,Nat.reduceSub,Nat.reduceMul,Nat.reduceEqDiff,Nat.reduceLeDiff,Nat.reduceLT,↓reduceIte,Int.reduceToNat,reduceCtorEq,Int.reduceLT,Int.reduceLE,Int.reduceGT,Int.reduceGE,Int.reduceEq,Int.reduceNe,Int.reduceNeg,Int.reduceAdd,Int.reduceSub]
  refine rK_use (enters_of Tryd.func48 rfl (by decide)) (H' := [.dead]) (ACalls.pre_fz 0 rfl (by simp [AV.pure, AV.lt]) (by simp [fzOkL, AV.fzOk]) (by simp [Blk.fzOk]) (ACalls.pure_use (pages_v [130, 10] (by decide)) rfl rfl)) ?_
  simp only [go_sem,Nat.reduceAdd,Nat.reduceSub,Nat.reduceMul,Nat.reduceEqDiff,Nat.reduceLeDiff,Nat.reduceLT,↓reduceIte,Int.reduceToNat,reduceCtorEq,Int.reduceLT,Int.reduceLE,Int.reduceGT,Int.reduceGE,Int.reduceEq,Int.reduceNe,Int.reduceNeg,Int.reduceAdd,Int.reduceSub,Sp.av]
  refine draw [.qu 0 1, .rd 0 1, .qu 0 1, .qu 0 1, .qu 0 1, .qu 0 1, .qu 0 2, .mn 0, .mn 1, .qu 2 2] (by kernel_rfl) (by kernel_rfl) ?_
  simp only [go_sem,Nat.reduceAdd,Nat.reduceSub,Nat.reduceMul,Nat.reduceEqDiff,Nat.reduceLeDiff,Nat.reduceLT,↓reduceIte,Int.reduceToNat,reduceCtorEq,Int.reduceLT,Int.reduceLE,Int.reduceGT,Int.reduceGE,Int.reduceEq,Int.reduceNe,Int.reduceNeg,Int.reduceAdd,Int.reduceSub]
  refine y_call (enters_of Tryd.func49 rfl (by decide)) (fun _ => ACalls.pure_use (regs_c 5 (-7) 0 0) rfl rfl) ?_
  simp only [go_sem,Nat.reduceAdd,Nat.reduceSub,Nat.reduceMul,Nat.reduceEqDiff,Nat.reduceLeDiff,Nat.reduceLT,↓reduceIte,Int.reduceToNat,reduceCtorEq,Int.reduceLT,Int.reduceLE,Int.reduceGT,Int.reduceGE,Int.reduceEq,Int.reduceNe,Int.reduceNeg,Int.reduceAdd,Int.reduceSub,regs_at]
  refine y_call (enters_of Tryd.func17 rfl (by decide)) (fun _ => ACalls.pure_use (Exec_c ⟨5, 1, 2, 0⟩ (by decide) (pg [130, 10]) px ⟨0, 5, -7, 0, 0, 0, 0, 0, 0⟩ (wf0 (by decide))) rfl (by simp [AV.lt, ltL, Eff.av_lt])) ?_
  rw [hA]
  simp only [go_sem,Nat.reduceAdd,Nat.reduceSub,Nat.reduceMul,Nat.reduceEqDiff,Nat.reduceLeDiff,Nat.reduceLT,↓reduceIte,Int.reduceToNat,reduceCtorEq,Int.reduceLT,Int.reduceLE,Int.reduceGT,Int.reduceGE,Int.reduceEq,Int.reduceNe,Int.reduceNeg,Int.reduceAdd,Int.reduceSub,Eff.av,Eff.cells,Eff.cellsD]
  refine draw [.qu 0 1, .rd 0 1, .qu 0 1, .qu 0 1, .qu 0 1, .qu 0 1, .qu 0 2, .mn 0, .mn 1, .qu 2 2] (by kernel_rfl) (by kernel_rfl) ?_
  simp only [go_sem,Nat.reduceAdd,Nat.reduceSub,Nat.reduceMul,Nat.reduceEqDiff,Nat.reduceLeDiff,Nat.reduceLT,↓reduceIte,Int.reduceToNat,reduceCtorEq,Int.reduceLT,Int.reduceLE,Int.reduceGT,Int.reduceGE,Int.reduceEq,Int.reduceNe,Int.reduceNeg,Int.reduceAdd,Int.reduceSub]
  refine y_call (enters_of Tryd.func49 rfl (by decide)) (fun _ => ACalls.pure_use (regs_c 3 0 128 0) rfl rfl) ?_
  simp only [go_sem,Nat.reduceAdd,Nat.reduceSub,Nat.reduceMul,Nat.reduceEqDiff,Nat.reduceLeDiff,Nat.reduceLT,↓reduceIte,Int.reduceToNat,reduceCtorEq,Int.reduceLT,Int.reduceLE,Int.reduceGT,Int.reduceGE,Int.reduceEq,Int.reduceNe,Int.reduceNeg,Int.reduceAdd,Int.reduceSub,regs_at]
  refine y_call (enters_of Tryd.func17 rfl (by decide)) (fun _ => ACalls.pure_use (Exec_c ⟨30, 1, 0, 0⟩ (by decide) (pg [130, 10]) px ⟨0, 3, 0, 0, 0, 0, 0, 128, 0⟩ (wf0 (by decide))) rfl (by simp [AV.lt, ltL, Eff.av_lt])) ?_
  rw [hB]
  simp only [go_sem,Nat.reduceAdd,Nat.reduceSub,Nat.reduceMul,Nat.reduceEqDiff,Nat.reduceLeDiff,Nat.reduceLT,↓reduceIte,Int.reduceToNat,reduceCtorEq,Int.reduceLT,Int.reduceLE,Int.reduceGT,Int.reduceGE,Int.reduceEq,Int.reduceNe,Int.reduceNeg,Int.reduceAdd,Int.reduceSub,Eff.av,Eff.cells,Eff.cellsD]
  refine draw [.qu 0 1, .rd 0 1, .qu 0 1, .qu 0 1, .qu 0 1, .qu 0 1, .qu 0 2, .mn 0, .mn 1, .qu 2 2] (by kernel_rfl) (by kernel_rfl) ?_
  simp only [go_sem,Nat.reduceAdd,Nat.reduceSub,Nat.reduceMul,Nat.reduceEqDiff,Nat.reduceLeDiff,Nat.reduceLT,↓reduceIte,Int.reduceToNat,reduceCtorEq,Int.reduceLT,Int.reduceLE,Int.reduceGT,Int.reduceGE,Int.reduceEq,Int.reduceNe,Int.reduceNeg,Int.reduceAdd,Int.reduceSub]
  refine y_call (enters_of Tryd.func49 rfl (by decide)) (fun _ => ACalls.pure_use (regs_c 3 0 64 0) rfl rfl) ?_
  simp only [go_sem,Nat.reduceAdd,Nat.reduceSub,Nat.reduceMul,Nat.reduceEqDiff,Nat.reduceLeDiff,Nat.reduceLT,↓reduceIte,Int.reduceToNat,reduceCtorEq,Int.reduceLT,Int.reduceLE,Int.reduceGT,Int.reduceGE,Int.reduceEq,Int.reduceNe,Int.reduceNeg,Int.reduceAdd,Int.reduceSub,regs_at]
  refine y_call (enters_of Tryd.func17 rfl (by decide)) (fun _ => ACalls.pure_use (Exec_c ⟨30, 1, 0, 0⟩ (by decide) (pg [130, 10]) px ⟨0, 3, 0, 0, 0, 0, 0, 64, 0⟩ (wf0 (by decide))) rfl (by simp [AV.lt, ltL, Eff.av_lt])) ?_
  rw [hC]
  simp only [go_sem,Nat.reduceAdd,Nat.reduceSub,Nat.reduceMul,Nat.reduceEqDiff,Nat.reduceLeDiff,Nat.reduceLT,↓reduceIte,Int.reduceToNat,reduceCtorEq,Int.reduceLT,Int.reduceLE,Int.reduceGT,Int.reduceGE,Int.reduceEq,Int.reduceNe,Int.reduceNeg,Int.reduceAdd,Int.reduceSub,Eff.av,Eff.cells,Eff.cellsD]
  refine draw [.qu 0 1, .rd 0 1, .qu 0 1, .qu 0 1, .qu 0 1, .qu 0 1, .qu 0 2, .mn 0, .mn 1, .qu 2 2] (by kernel_rfl) (by kernel_rfl) ?_
  simp only [go_sem,Nat.reduceAdd,Nat.reduceSub,Nat.reduceMul,Nat.reduceEqDiff,Nat.reduceLeDiff,Nat.reduceLT,↓reduceIte,Int.reduceToNat,reduceCtorEq,Int.reduceLT,Int.reduceLE,Int.reduceGT,Int.reduceGE,Int.reduceEq,Int.reduceNe,Int.reduceNeg,Int.reduceAdd,Int.reduceSub]
  refine y_call (enters_of Tryd.func49 rfl (by decide)) (fun _ => ACalls.pure_use (regs_c 0 120 0 0) rfl rfl) ?_
  simp only [go_sem,Nat.reduceAdd,Nat.reduceSub,Nat.reduceMul,Nat.reduceEqDiff,Nat.reduceLeDiff,Nat.reduceLT,↓reduceIte,Int.reduceToNat,reduceCtorEq,Int.reduceLT,Int.reduceLE,Int.reduceGT,Int.reduceGE,Int.reduceEq,Int.reduceNe,Int.reduceNeg,Int.reduceAdd,Int.reduceSub,regs_at]
  refine y_call (enters_of Tryd.func17 rfl (by decide)) (fun _ => ACalls.pure_use (Exec_c ⟨18, 1, 2, 1⟩ (by decide) (pg [130, 10]) px ⟨0, 0, 120, 0, 0, 0, 0, 0, 0⟩ (wf0 (by decide))) rfl (by simp [AV.lt, ltL, Eff.av_lt])) ?_
  rw [hE]
  simp only [go_sem,Nat.reduceAdd,Nat.reduceSub,Nat.reduceMul,Nat.reduceEqDiff,Nat.reduceLeDiff,Nat.reduceLT,↓reduceIte,Int.reduceToNat,reduceCtorEq,Int.reduceLT,Int.reduceLE,Int.reduceGT,Int.reduceGE,Int.reduceEq,Int.reduceNe,Int.reduceNeg,Int.reduceAdd,Int.reduceSub,Eff.av,Eff.cells,Eff.cellsD]
  simp only [go_sem,Nat.reduceAdd,Nat.reduceSub,Nat.reduceMul,Nat.reduceEqDiff,Nat.reduceLeDiff,Nat.reduceLT,↓reduceIte,Int.reduceToNat,reduceCtorEq,Int.reduceLT,Int.reduceLE,Int.reduceGT,Int.reduceGE,Int.reduceEq,Int.reduceNe,Int.reduceNeg,Int.reduceAdd,Int.reduceSub,a1,a2,b1,b2,b3,c1,d1,List.length_map]
  refine draw [.rd 0 1, .qu 0 1, .qu 0 1, .qu 0 1, .qu 0 1, .qu 0 2, .mn 0, .mn 1, .qu 2 2] (by kernel_rfl) (by kernel_rfl) ?_
  simp only [go_sem,Nat.reduceAdd,Nat.reduceSub,Nat.reduceMul,Nat.reduceEqDiff,Nat.reduceLeDiff,Nat.reduceLT,↓reduceIte,Int.reduceToNat,reduceCtorEq,Int.reduceLT,Int.reduceLE,Int.reduceGT,Int.reduceGE,Int.reduceEq,Int.reduceNe,Int.reduceNeg,Int.reduceAdd,Int.reduceSub]
  refine y_call (enters_of Tryd.func49 rfl (by decide)) (fun _ => ACalls.pure_use (regs_c 0 9 0 0) rfl rfl) ?_
  simp only [go_sem,Nat.reduceAdd,Nat.reduceSub,Nat.reduceMul,Nat.reduceEqDiff,Nat.reduceLeDiff,Nat.reduceLT,↓reduceIte,Int.reduceToNat,reduceCtorEq,Int.reduceLT,Int.reduceLE,Int.reduceGT,Int.reduceGE,Int.reduceEq,Int.reduceNe,Int.reduceNeg,Int.reduceAdd,Int.reduceSub,regs_at]
  refine y_call (enters_of Tryd.func18 rfl (by decide)) (fun _ => ACalls.pure_use (Step_c (pg [130, 10]) px ⟨0, 0, 9, 0, 0, 0, 0, 0, 0⟩ (wf0 (by decide))) rfl (by simp [AV.lt, ltL, Eff.av_lt])) ?_
  rw [hX]
  simp only [go_sem,Nat.reduceAdd,Nat.reduceSub,Nat.reduceMul,Nat.reduceEqDiff,Nat.reduceLeDiff,Nat.reduceLT,↓reduceIte,Int.reduceToNat,reduceCtorEq,Int.reduceLT,Int.reduceLE,Int.reduceGT,Int.reduceGE,Int.reduceEq,Int.reduceNe,Int.reduceNeg,Int.reduceAdd,Int.reduceSub,Eff.av,Eff.cells,Eff.cellsD]
  have u1 : ((zfill []).map rb).set 63 [.int .u8 130] = tY.byt.map rb := rfl
  have u2 : (tY.byt.map rb).set 0 [.int .u8 5] = tZ.byt.map rb := rfl
  have n0 : ((zfill []).map rb).length = 128 := rfl
  have nY : (tY.byt.map rb).length = 128 := rfl
  have q0 : ((zfill []).map rb)[63]? = some [.int .u8 0] := rfl
  have qY : (tY.byt.map rb)[0]? = some [.int .u8 0] := rfl
  have cY : ∀ H, H[7]? = some (Blk.rows 1 (tY.byt.map rb)) → ACalls Tryd.prog 18 [.agg [.view false 1 [r1 4, r1 3], .sl 7 0 128 (some 128)], .agg [iv 0, iv 0, iv 0, iv 0, iv 0, iv 0, iv 0, iv 0, iv 63]] H (fun o H2 => o = .ret (.tuple [Y.av, iv 0]) ∧ H2 = H) := fun H hH => by
    have e : (tY.byt.map rb).take 128 = tY.byt.map rb := rfl
    refine ACalls.lend 7 (by simp [Eff.av, Eff.cells, Eff.cellsD, y2, AV.bare, bareL, dby]) hH (rb_pure _) (by simp [fzOkL, AV.fzOk, nY]) (by simp [fzL, AV.fz, ltL, AV.lt]) ?_
    have := Step_c tY tY_ok ⟨0, 0, 0, 0, 0, 0, 0, 0, 63⟩ (wf0 (by decide))
    rw [hY] at this
    simp only [fzL, AV.fz, List.drop_zero, e, if_true]
    exact this
  have cZ : ∀ H, H[7]? = some (Blk.rows 1 (tZ.byt.map rb)) → ACalls Tryd.prog 18 [.agg [.view false 1 [r1 4, r1 3], .sl 7 0 128 (some 128)], .agg [iv 0, iv 0, iv 0, iv 0, iv 0, iv 0, iv 0, iv 0, iv 0]] H (fun o H2 => o = .ret (.tuple [Z.av, iv 0]) ∧ H2 = H) := fun H hH => by
    have e : (tZ.byt.map rb).take 128 = tZ.byt.map rb := rfl
    refine ACalls.lend 7 (by simp [Eff.av, Eff.cells, Eff.cellsD, z2, AV.bare, bareL, dby]) hH (rb_pure _) (by simp [fzOkL, AV.fzOk]; decide) (by simp [fzL, AV.fz, ltL, AV.lt]) ?_
    have := Step_c tZ tZ_ok ⟨0, 0, 0, 0, 0, 0, 0, 0, 0⟩ (wf0 (by decide))
    rw [hZ] at this
    simp only [fzL, AV.fz, List.drop_zero, e, if_true]
    exact this
  refine rK_use (enters_of Tryd.func48 rfl (by decide)) (pages_n.fresh (v' := .agg [.view false 1 [r1 4, r1 3], .sl 7 0 128 (some 128)]) rfl (rb_lt0 _) rfl) ?_
  generalize (zfill []).map rb = L0 at *
  generalize tY.byt.map rb = LY at *
  generalize tZ.byt.map rb = LZ at *
  simp only [go_sem,Nat.reduceAdd,Nat.reduceSub,Nat.reduceMul,Nat.reduceEqDiff,Nat.reduceLeDiff,Nat.reduceLT,↓reduceIte,Int.reduceToNat,reduceCtorEq,Int.reduceLT,Int.reduceLE,Int.reduceGT,Int.reduceGE,Int.reduceEq,Int.reduceNe,Int.reduceNeg,Int.reduceAdd,Int.reduceSub,n0,q0,u1]
  refine draw [.rd 0 1, .qu 0 1, .rd 0 1, .qu 0 1, .qu 0 1, .qu 0 2, .mn 0, .mn 1, .qu 2 2] (by kernel_rfl) (by kernel_rfl) ?_
  simp only [go_sem,Nat.reduceAdd,Nat.reduceSub,Nat.reduceMul,Nat.reduceEqDiff,Nat.reduceLeDiff,Nat.reduceLT,↓reduceIte,Int.reduceToNat,reduceCtorEq,Int.reduceLT,Int.reduceLE,Int.reduceGT,Int.reduceGE,Int.reduceEq,Int.reduceNe,Int.reduceNeg,Int.reduceAdd,Int.reduceSub]
  refine y_call (enters_of Tryd.func49 rfl (by decide)) (fun _ => ACalls.pure_use (regs_c 0 0 0 63) rfl rfl) ?_
  simp only [go_sem,Nat.reduceAdd,Nat.reduceSub,Nat.reduceMul,Nat.reduceEqDiff,Nat.reduceLeDiff,Nat.reduceLT,↓reduceIte,Int.reduceToNat,reduceCtorEq,Int.reduceLT,Int.reduceLE,Int.reduceGT,Int.reduceGE,Int.reduceEq,Int.reduceNe,Int.reduceNeg,Int.reduceAdd,Int.reduceSub,regs_at]
  refine y_callr (enters_of Tryd.func18 rfl (by decide)) (cY _ rfl) trivial ?_
  simp only [go_sem,Nat.reduceAdd,Nat.reduceSub,Nat.reduceMul,Nat.reduceEqDiff,Nat.reduceLeDiff,Nat.reduceLT,↓reduceIte,Int.reduceToNat,reduceCtorEq,Int.reduceLT,Int.reduceLE,Int.reduceGT,Int.reduceGE,Int.reduceEq,Int.reduceNe,Int.reduceNeg,Int.reduceAdd,Int.reduceSub,Eff.av,Eff.cells,Eff.cellsD]
  refine ⟨⟨(enters_of Tryd.func18 rfl (by decide)), cY _ rfl⟩, ?_⟩
  simp only [go_sem,Nat.reduceAdd,Nat.reduceSub,Nat.reduceMul,Nat.reduceEqDiff,Nat.reduceLeDiff,Nat.reduceLT,↓reduceIte,Int.reduceToNat,reduceCtorEq,Int.reduceLT,Int.reduceLE,Int.reduceGT,Int.reduceGE,Int.reduceEq,Int.reduceNe,Int.reduceNeg,Int.reduceAdd,Int.reduceSub,nY,qY,u2]
  refine draw [.rd 0 1, .qu 0 1, .rd 0 1, .qu 0 1, .qu 0 1, .qu 0 2, .mn 0, .mn 1, .qu 2 2] (by kernel_rfl) (by kernel_rfl) ?_
  simp only [go_sem,Nat.reduceAdd,Nat.reduceSub,Nat.reduceMul,Nat.reduceEqDiff,Nat.reduceLeDiff,Nat.reduceLT,↓reduceIte,Int.reduceToNat,reduceCtorEq,Int.reduceLT,Int.reduceLE,Int.reduceGT,Int.reduceGE,Int.reduceEq,Int.reduceNe,Int.reduceNeg,Int.reduceAdd,Int.reduceSub]
  refine y_call (enters_of Tryd.func49 rfl (by decide)) (fun _ => ACalls.pure_use (regs_c 0 0 0 0) rfl rfl) ?_
  simp only [go_sem,Nat.reduceAdd,Nat.reduceSub,Nat.reduceMul,Nat.reduceEqDiff,Nat.reduceLeDiff,Nat.reduceLT,↓reduceIte,Int.reduceToNat,reduceCtorEq,Int.reduceLT,Int.reduceLE,Int.reduceGT,Int.reduceGE,Int.reduceEq,Int.reduceNe,Int.reduceNeg,Int.reduceAdd,Int.reduceSub,regs_at]
  refine y_callr (enters_of Tryd.func18 rfl (by decide)) (cZ _ rfl) trivial ?_
  simp only [go_sem,Nat.reduceAdd,Nat.reduceSub,Nat.reduceMul,Nat.reduceEqDiff,Nat.reduceLeDiff,Nat.reduceLT,↓reduceIte,Int.reduceToNat,reduceCtorEq,Int.reduceLT,Int.reduceLE,Int.reduceGT,Int.reduceGE,Int.reduceEq,Int.reduceNe,Int.reduceNeg,Int.reduceAdd,Int.reduceSub,Eff.av,Eff.cells,Eff.cellsD]
  refine ⟨⟨(enters_of Tryd.func18 rfl (by decide)), cZ _ rfl⟩, ?_⟩
  have hal : alu 14 (-1) 65 = some 9223372036854775807 := by kernel_rfl
  have hac := Alu_c 14 (-1) 65 (by decide) (by decide)
  rw [hal] at hac
  refine rK_use (enters_of Tryd.func27 rfl (by decide)) (ACalls.pure_use hac rfl rfl) ?_
  simp only [go_sem,Nat.reduceAdd,Nat.reduceSub,Nat.reduceMul,Nat.reduceEqDiff,Nat.reduceLeDiff,Nat.reduceLT,↓reduceIte,Int.reduceToNat,reduceCtorEq,Int.reduceLT,Int.reduceLE,Int.reduceGT,Int.reduceGE,Int.reduceEq,Int.reduceNe,Int.reduceNeg,Int.reduceAdd,Int.reduceSub,x1,y1,z1,Option.getD_some,Option.isSome_some]
  refine finv (v := .bool true) rfl ?_ _
  rw [← hpost]
  exact ⟨rfl, rfl⟩
end Go.Proofs.YtojfnagfafoiaaaDoor

set_option maxRecDepth 100000
set_option linter.unusedVariables false
set_option linter.unusedSimpArgs false
namespace Go.Proofs.YtojfnagfafoiaaaDoor
open Go.AM
open Go.ChangeShapes Go.WideShapes Go.ChangeAt Go.RowKit
/-! ### the package's variable -/
def kdOf : DataW Unit → List UInt8 × Int
  | .agg [.lit (.string s), .lit (.int _ n)] => (s, n)
  | _ => ([], 0)
def kd : List (List UInt8 × Int) := match (Rows.laid_tapline_insn_kinds : DataW Unit) with
  | .agg ds => ds.map kdOf
  | _ => []
def kdD (x : List UInt8 × Int) : DataW Unit := .agg [.lit (.string x.1), .lit (.int .i64 x.2)]
def kdV (x : List UInt8 × Int) : List Value := [.string ⟨x.1.toArray⟩, .int .i64 x.2]
theorem kd_laid : (Rows.laid_tapline_insn_kinds : DataW Unit) = .agg (kd.map kdD) := rfl
theorem kd_gtab : gtab = [(0, kd.flatMap kdV)] := rfl
theorem kd_len : kd.length = 35 := by kernel_rfl
theorem chunk {α : Type} : ∀ (L : List (List α)) (cs : List α) (m : Nat), (∀ l ∈ L, l.length = m) → cs.length = L.length * m → (∀ (i : Nat) l, L[i]? = some l → (cs.drop (i * m)).take m = l) → cs = L.flatten
  | [], cs, m, _, h, _ => by simpa using h
  | l :: L, cs, m, hl, hn, h => by
    have h0 := h 0 l rfl
    simp at h0
    have ih := chunk L (cs.drop m) m (fun x hx => hl x (List.mem_cons_of_mem _ hx)) (by simp [hn, Nat.add_mul]) (fun i x hx => by
      have := h (i + 1) x (by simpa using hx)
      rw [List.drop_drop, show m + i * m = (i + 1) * m by rw [Nat.add_mul]; omega]
      exact this)
    rw [List.flatten_cons, ← ih, ← h0, List.take_append_drop]
theorem two {α : Type} : ∀ {l : List α}, l.length = 2 → ∃ a b, l = [a, b]
  | [a, b], _ => ⟨a, b, rfl⟩
theorem glok {W : World} (h : laidMetH Tryd.prog [("tapline/insn.kinds", Rows.laid_tapline_insn_kinds)] W) : GlOk (snapAll W) := by
  rw [MakeChecks.laidMetH_plain _ _ _ (by kernel_rfl)] at h
  obtain ⟨ps, ⟨g, t, cs, fuel, p, q, hg, ht, hv, hd, _, _⟩, _, _⟩ := h
  obtain rfl := Option.some.inj ((show Tryd.prog.globalNamed "tapline/insn.kinds" = some 0 by kernel_rfl).symm.trans hg)
  obtain rfl := Option.some.inj ((show (Tryd.prog.globals[0]?).map (·.type) = some 147 by kernel_rfl).symm.trans ht)
  obtain ⟨xs, m, _, ex, hn, hl, hel⟩ := DataW.trod_array Tryd.underlying147 hd
  have c2 : Tryd.prog.cellsOf 118 = 2 := by kernel_rfl
  have c70 : Tryd.prog.cellsOf 147 = 70 := by kernel_rfl
  have e3 : xs.map (·.1) = kd.map kdD := by
    have := (Prod.mk.inj ex).1
    rw [kd_laid] at this
    exact (DataW.agg.inj this).symm
  have hkl := kd_len
  have hcs : cs.toList = (kd.map kdV).flatten := by
    refine chunk _ _ 2 (fun l hl => by obtain ⟨x, _, rfl⟩ := List.mem_map.1 hl; rfl) (by rw [hn, c70, List.length_map, hkl]) fun i l hi => ?_
    rw [List.getElem?_map, Option.map_eq_some_iff] at hi
    obtain ⟨x, hx, rfl⟩ := hi
    have hil := (List.getElem?_eq_some_iff.1 hx).1
    have hE := hel i (by omega)
    rw [c2, List.getElem?_eq_getElem (by omega)] at hE
    have hx1 : xs[i].1 = kdD x := by
      have := congrArg (fun l => l[i]?) e3
      simp only [List.getElem?_map, hx, List.getElem?_eq_getElem (show i < xs.length by omega), Option.map_some, Option.some.injEq] at this
      exact this
    obtain ⟨ys, n, _, ey, hyl, hys, hf⟩ := DataW.trod_struct Tryd.underlying118 hE
    have f0 := hf 0 _ rfl
    have f1 := hf 1 _ rfl
    have h2 : ys.length = 2 := hys
    rw [List.getElem?_eq_getElem (by omega)] at f0 f1
    obtain ⟨s, s1, s2, _⟩ := DataW.trod_string Tryd.underlying9 f0
    obtain ⟨z, z1, z2, _⟩ := DataW.trod_int Tryd.underlying3 f1
    have c9 : Tryd.prog.cellsOf 9 = 1 := by kernel_rfl
    have c3 : Tryd.prog.cellsOf 3 = 1 := by kernel_rfl
    have e4 : ys.map (·.1) = [.lit (.string x.1), .lit (.int .i64 x.2)] := by
      rw [ey] at hx1
      exact DataW.agg.inj hx1
    obtain ⟨y0, y1, rfl⟩ := two h2
    simp only [List.map_cons, List.map_nil, List.cons.injEq, and_true, List.getElem_cons_zero, List.getElem_cons_succ] at e4
    have s2' : y0 = _ := s2
    have z2' : y1 = _ := z2
    rw [s2', z2'] at e4
    simp only [DataW.lit.injEq, Lit.string.injEq, Lit.int.injEq, true_and] at e4
    obtain ⟨es, ez⟩ := e4
    have hs : s = ⟨x.1.toArray⟩ := by
      rw [← es]
    rw [c2] at hyl
    generalize (cs.toList.drop (i * 2)).take 2 = B at *
    obtain ⟨u, v, rfl⟩ := two hyl
    have s1' : List.take (Tryd.prog.cellsOf 9) [u, v] = [.string s] := s1
    have z1' : List.take (Tryd.prog.cellsOf 3) [v] = [.int .i64 z] := z1
    rw [c9] at s1'
    rw [c3] at z1'
    simp only [List.take_succ_cons, List.take_zero, List.cons.injEq, and_true] at s1' z1'
    rw [s1', z1', hs, ez]
    rfl
  have hfl : kd.flatMap kdV = cs.toList := by rw [hcs, List.flatMap]
  intro y hy k v hk
  rw [kd_gtab, List.mem_singleton] at hy
  subst hy
  have hk' : cs.toList[k]? = some v := by rw [← hfl]; exact hk
  have hc := World.var?_cell hg hv k
  rw [show cs[k]? = some v by simpa using hk'] at hc
  unfold scell snapAll
  unfold World.cell? at hc
  split at hc
  · rename_i e
    rw [e]
    exact hc
  · cases hc
/-! ### shapes -/
theorem wf_i64 {n : Int} (h : (Lit.int .i64 n).wf = true) : I64 n := by
  simp only [Lit.wf, Bool.and_eq_true, decide_eq_true_eq] at h
  have h1 : IntKind.i64.min = -9223372036854775808 := by decide
  have h2 : IntKind.i64.max = 9223372036854775807 := by decide
  rw [h1, h2] at h
  exact h
theorem wf_u8 {n : Int} (h : (Lit.int .u8 n).wf = true) : ∃ b : UInt8, n = (b.toNat : Int) := by
  simp only [Lit.wf, Bool.and_eq_true, decide_eq_true_eq] at h
  have h1 : IntKind.u8.min = 0 := by decide
  have h2 : IntKind.u8.max = 255 := by decide
  rw [h1, h2] at h
  refine ⟨UInt8.ofNat n.toNat, ?_⟩
  rw [UInt8.toNat_ofNat']
  omega
theorem sh_int {xs : List AV} (h : Sh Tryd.prog 3 xs) : ∃ n, wkL xs = r1 n ∧ I64 n := by
  obtain ⟨n, rfl, hw⟩ := h.int_inv Tryd.underlying3
  exact ⟨n, rfl, wf_i64 hw⟩
theorem sh_i64 {xs : List AV} (h : Sh Tryd.prog 2 xs) : ∃ n, wkL xs = r1 n ∧ I64 n := by
  obtain ⟨n, rfl, hw⟩ := h.int_inv Tryd.underlying2
  exact ⟨n, rfl, wf_i64 hw⟩
theorem sh_u8 {xs : List AV} (h : Sh Tryd.prog 5 xs) : ∃ b : UInt8, wkL xs = rb b := by
  obtain ⟨n, rfl, hw⟩ := h.int_inv Tryd.underlying5
  obtain ⟨b, rfl⟩ := wf_u8 hw
  exact ⟨b, rfl⟩
theorem cells_int : Tryd.prog.cellsOf 3 = 1 := by kernel_rfl
theorem cells_u8 : Tryd.prog.cellsOf 5 = 1 := by kernel_rfl
theorem wkL_app : ∀ (a b : List AV), wkL (a ++ b) = wkL a ++ wkL b
  | [], b => rfl
  | x :: a, b => by simp [wkL, wkL_app a b]
theorem sh_space {xs : List AV} (h : Sh Tryd.prog 27 xs) : ∃ s : Sp, wkL xs = [.view false 1 (s.perm.map r1), .view false 1 (s.byt.map rb)] := by
  obtain ⟨xss, rfl, hn, hp⟩ := h.struct_inv Tryd.underlying27
  obtain ⟨a, b, rfl⟩ := two hn
  obtain ⟨f1, r1', h1, _, hr1⟩ := (hp 0 _ a rfl rfl).slice_inv Tryd.underlying24
  obtain ⟨f2, r2', h2, _, hr2⟩ := (hp 1 _ b rfl rfl).slice_inv Tryd.underlying25
  obtain ⟨l1, hl1⟩ := Sh.rows (f := r1) (fun row hrow => (sh_int hrow).imp fun n hn => hn.1) hr1
  obtain ⟨l2, hl2⟩ := Sh.rows (f := rb) (fun row hrow => sh_u8 hrow) hr2
  subst h1 h2
  refine ⟨⟨l1, l2⟩, ?_⟩
  simp [AV.wk, wkL_app, wkL, hl1, hl2, cells_int, cells_u8]
theorem flat3 {xss : List (List AV)} (h : xss.length = 3) : ∃ a b c, xss = [a, b, c] := by
  match xss, h with
  | [a, b, c], _ => exact ⟨a, b, c, rfl⟩
theorem flat4 {xss : List (List AV)} (h : xss.length = 4) : ∃ a b c d, xss = [a, b, c, d] := by
  match xss, h with
  | [a, b, c, d], _ => exact ⟨a, b, c, d, rfl⟩
theorem flat8 {xss : List (List AV)} (h : xss.length = 8) : ∃ a b c d e f g i, xss = [a, b, c, d, e, f, g, i] := by
  match xss, h with
  | [a, b, c, d, e, f, g, i], _ => exact ⟨a, b, c, d, e, f, g, i, rfl⟩
theorem sh_insn {xs : List AV} (h : Sh Tryd.prog 23 xs) : ∃ x : Ins, wkL xs = x.cells := by
  obtain ⟨xss, rfl, hn, hp⟩ := h.struct_inv Tryd.underlying23
  obtain ⟨a, b, c, d, rfl⟩ := flat4 hn
  obtain ⟨n0, h0, _⟩ := sh_int (hp 0 _ a rfl rfl)
  obtain ⟨n1, h1, _⟩ := sh_int (hp 1 _ b rfl rfl)
  obtain ⟨n2, h2, _⟩ := sh_int (hp 2 _ c rfl rfl)
  obtain ⟨n3, h3, _⟩ := sh_i64 (hp 3 _ d rfl rfl)
  exact ⟨⟨n0, n1, n2, n3⟩, by simp [wkL_app, h0, h1, h2, h3, Ins.cells]⟩
theorem sh_regs {xs : List AV} (h : Sh Tryd.prog 30 xs) : ∃ r : Rg, wkL xs = r.cells ∧ r.wf := by
  obtain ⟨xss, rfl, hn, hp⟩ := h.struct_inv Tryd.underlying30
  obtain ⟨a, b, rfl⟩ := two hn
  obtain ⟨yss, rfl, hm, hq⟩ := (hp 0 _ a rfl rfl).array_inv Tryd.underlying28
  obtain ⟨a0, a1, a2, a3, a4, a5, a6, a7, rfl⟩ := flat8 hm
  obtain ⟨n0, h0, w0⟩ := sh_i64 (hq a0 (by simp))
  obtain ⟨n1, h1, w1⟩ := sh_i64 (hq a1 (by simp))
  obtain ⟨n2, h2, w2⟩ := sh_i64 (hq a2 (by simp))
  obtain ⟨n3, h3, w3⟩ := sh_i64 (hq a3 (by simp))
  obtain ⟨n4, h4, w4⟩ := sh_i64 (hq a4 (by simp))
  obtain ⟨n5, h5, w5⟩ := sh_i64 (hq a5 (by simp))
  obtain ⟨n6, h6, w6⟩ := sh_i64 (hq a6 (by simp))
  obtain ⟨n7, h7, w7⟩ := sh_i64 (hq a7 (by simp))
  obtain ⟨n8, h8, w8⟩ := sh_i64 (hp 1 _ b rfl rfl)
  refine ⟨⟨n0, n1, n2, n3, n4, n5, n6, n7, n8⟩, by simp [wkL_app, h0, h1, h2, h3, h4, h5, h6, h7, h8, Rg.cells], ⟨?_, w8⟩⟩
  intro x hx
  simp only [Rg.list, List.mem_cons, List.not_mem_nil, or_false] at hx
  rcases hx with rfl | rfl | rfl | rfl | rfl | rfl | rfl | rfl <;> assumption
theorem sh_sums {xs : List AV} (h : Sh Tryd.prog 58 xs) : ∃ op a b : Int, wkL xs = [iv op, iv a, iv b] ∧ I64 a := by
  obtain ⟨xss, rfl, hn, hp⟩ := h.struct_inv Tryd.underlying58
  obtain ⟨a, b, c, rfl⟩ := flat3 hn
  obtain ⟨n0, h0, _⟩ := sh_int (hp 0 _ a rfl rfl)
  obtain ⟨n1, h1, w⟩ := sh_i64 (hp 1 _ b rfl rfl)
  obtain ⟨n2, h2, _⟩ := sh_i64 (hp 2 _ c rfl rfl)
  exact ⟨n0, n1, n2, by simp [wkL_app, h0, h1, h2], w⟩
theorem sh_place {xs : List AV} (h : Sh Tryd.prog 49 xs) : ∃ (s : Sp) (r : Rg), wkL xs = .view false 1 (s.perm.map r1) :: .view false 1 (s.byt.map rb) :: r.cells ∧ r.wf := by
  obtain ⟨xss, rfl, hn, hp⟩ := h.struct_inv Tryd.underlying49
  obtain ⟨a, b, rfl⟩ := two hn
  obtain ⟨s, h0⟩ := sh_space (hp 0 _ a rfl rfl)
  obtain ⟨r, h1, w⟩ := sh_regs (hp 1 _ b rfl rfl)
  exact ⟨s, r, by simp [wkL_app, h0, h1], w⟩
theorem sh_other {xs : List AV} (h : Sh Tryd.prog 87 xs) : ∃ (r : Rg) (b : UInt8), wkL xs = r.cells ++ rb b ∧ r.wf := by
  obtain ⟨xss, rfl, hn, hp⟩ := h.struct_inv Tryd.underlying87
  obtain ⟨a, b, rfl⟩ := two hn
  obtain ⟨r, h1, w⟩ := sh_regs (hp 0 _ a rfl rfl)
  obtain ⟨c, h0⟩ := sh_u8 (hp 1 _ b rfl rfl)
  exact ⟨r, c, by simp [wkL_app, h0, h1], w⟩
/-! ### arguments -/
/-- A structure that reads. -/
theorem read_agg {H : Type} {enc : TypeId × Value → H} {P : Program} {w : World} {t : TypeId} {fs : Array Field} {v : Value} {d : DataW H} {p : List MemPlace} {base : Nat} (m : Nat) (ht : P.underlying t = some (.struct fs)) (hp : plainB P m t = true)
    (hv : Value.okWide P w .any base t v) (h : DataW.Trod enc P w 0 (fun _ => true) true t v d p) : ∃ xs, VR (snapAll w) noEnv (.agg (wkL xs)) v ∧ Sh P t xs := by
  unfold Value.okWide at hv
  rw [ht] at hv
  obtain ⟨cs, rfl, _⟩ := hv
  obtain ⟨n, hn⟩ := h
  obtain ⟨xs, h1, h2⟩ := read_trod m t hp n _ _ hn
  have hlen : xs.length = cs.size := by rw [h1.1]; simp [Value.cells]
  refine ⟨xs, ?_, h2⟩
  have := VR.wk (VR.agg (sn := snapAll w) noEnv xs cs hlen.symm fun k x y hx hy => (h1.2 k x y hx (by simpa [Value.cells] using hy)).1)
  simpa [AV.wk] using this
section
variable {H : Type} {enc : TypeId × Value → H} {w : World} {v : Value} {d : DataW H} {p : List MemPlace} {base : Nat}
theorem read_insn (hv : Value.okWide Tryd.prog w .any base 23 v) (h : DataW.Trod enc Tryd.prog w 0 (fun _ => true) true 23 v d p) : ∃ x : Ins, VR (snapAll w) noEnv x.av v := by
  obtain ⟨xs, h1, h2⟩ := read_agg 5 Tryd.underlying23 (by kernel_rfl) hv h
  obtain ⟨x, hx⟩ := sh_insn h2
  exact ⟨x, by rw [hx] at h1; exact h1⟩
theorem read_space (hv : Value.okWide Tryd.prog w .any base 27 v) (h : DataW.Trod enc Tryd.prog w 0 (fun _ => true) true 27 v d p) : ∃ s : Sp, VR (snapAll w) noEnv s.av v := by
  obtain ⟨xs, h1, h2⟩ := read_agg 5 Tryd.underlying27 (by kernel_rfl) hv h
  obtain ⟨x, hx⟩ := sh_space h2
  exact ⟨x, by rw [hx] at h1; exact h1⟩
theorem read_regs (hv : Value.okWide Tryd.prog w .any base 30 v) (h : DataW.Trod enc Tryd.prog w 0 (fun _ => true) true 30 v d p) : ∃ r : Rg, VR (snapAll w) noEnv r.av v ∧ r.wf := by
  obtain ⟨xs, h1, h2⟩ := read_agg 5 Tryd.underlying30 (by kernel_rfl) hv h
  obtain ⟨x, hx, hw⟩ := sh_regs h2
  exact ⟨x, by rw [hx] at h1; exact h1, hw⟩
theorem read_sums (hv : Value.okWide Tryd.prog w .any base 58 v) (h : DataW.Trod enc Tryd.prog w 0 (fun _ => true) true 58 v d p) : ∃ op a b : Int, VR (snapAll w) noEnv (.agg [iv op, iv a, iv b]) v ∧ I64 a := by
  obtain ⟨xs, h1, h2⟩ := read_agg 5 Tryd.underlying58 (by kernel_rfl) hv h
  obtain ⟨op, a, b, hx, hw⟩ := sh_sums h2
  exact ⟨op, a, b, by rw [hx] at h1; exact h1, hw⟩
theorem read_place (hv : Value.okWide Tryd.prog w .any base 49 v) (h : DataW.Trod enc Tryd.prog w 0 (fun _ => true) true 49 v d p) :
    ∃ (s : Sp) (r : Rg), VR (snapAll w) noEnv (.agg (.view false 1 (s.perm.map r1) :: .view false 1 (s.byt.map rb) :: r.cells)) v ∧ r.wf := by
  obtain ⟨xs, h1, h2⟩ := read_agg 5 Tryd.underlying49 (by kernel_rfl) hv h
  obtain ⟨s, r, hx, hw⟩ := sh_place h2
  exact ⟨s, r, by rw [hx] at h1; exact h1, hw⟩
theorem read_other (hv : Value.okWide Tryd.prog w .any base 87 v) (h : DataW.Trod enc Tryd.prog w 0 (fun _ => true) true 87 v d p) : ∃ (r : Rg) (b : UInt8), VR (snapAll w) noEnv (.agg (r.cells ++ rb b)) v ∧ r.wf := by
  obtain ⟨xs, h1, h2⟩ := read_agg 5 Tryd.underlying87 (by kernel_rfl) hv h
  obtain ⟨r, b, hx, hw⟩ := sh_other h2
  exact ⟨r, b, by rw [hx] at h1; exact h1, hw⟩
theorem read_i64 (hv : Value.okWide Tryd.prog w .any base 2 v) (h : DataW.Trod enc Tryd.prog w 0 (fun _ => true) true 2 v d p) : ∃ n : Int, VR (snapAll w) noEnv (iv n) v ∧ I64 n := by
  obtain ⟨n, rfl, _, _, hw⟩ := open_int Tryd.underlying2 hv h
  exact ⟨n, .int _ _ _, wf_i64 hw⟩
theorem read_int (hv : Value.okWide Tryd.prog w .any base 3 v) (h : DataW.Trod enc Tryd.prog w 0 (fun _ => true) true 3 v d p) : ∃ n : Int, VR (snapAll w) noEnv (iv n) v ∧ I64 n := by
  obtain ⟨n, rfl, _, _, hw⟩ := open_int Tryd.underlying3 hv h
  exact ⟨n, .int _ _ _, wf_i64 hw⟩
theorem read_u16 (hv : Value.okWide Tryd.prog w .any base 50 v) (h : DataW.Trod enc Tryd.prog w 0 (fun _ => true) true 50 v d p) : ∃ n : Int, VR (snapAll w) noEnv (.int .u16 n) v ∧ 0 ≤ n ∧ n ≤ 65535 := by
  obtain ⟨n, rfl, _, _, hw⟩ := open_int Tryd.underlying50 hv h
  simp only [Lit.wf, Bool.and_eq_true, decide_eq_true_eq] at hw
  have h1 : IntKind.u16.min = 0 := by decide
  have h2 : IntKind.u16.max = 65535 := by decide
  rw [h1, h2] at hw
  exact ⟨n, .int _ _ _, hw⟩
end
theorem lout : laidOutB Tryd.prog = true := by kernel_rfl
theorem own : ownKnob Tryd.prog.godebug = none := by kernel_rfl
theorem rd_ok {l : List TypeId} (h : (l.all fun t => Tryd.prog.readableRec t && decide (t < Tryd.prog.types.size)) = true) : ∀ t ∈ l, Tryd.prog.readableRec t = true ∧ t < Tryd.prog.types.size := fun t ht => by
  have := List.all_eq_true.1 h t ht
  simpa using this
end Go.Proofs.YtojfnagfafoiaaaDoor
