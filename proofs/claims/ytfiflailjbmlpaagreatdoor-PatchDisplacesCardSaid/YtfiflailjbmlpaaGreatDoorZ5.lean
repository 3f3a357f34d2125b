/- Texts joined, without what is not needed. No condition. -/
import Derived.Test.YtfiflailjbmlpaaGreatDoorZ4
set_option maxRecDepth 100000
set_option linter.unusedVariables false
set_option linter.unusedSimpArgs false
namespace Go.Proofs.YtfiflailjbmlpaaGreatDoor
open Go.AM
def Pr.setA (p : Pr) (v : Int) : Pr := { p with rg := p.rg.set p.x.a v }
theorem t1_c (p : Pr) (hx : p.x.ok) :
    ACalls Tryz.prog 144 [.ptr 0 0 0] [.rows 31 [p.row dnil]] (fun o H => o = .ret (.tuple []) ∧ H = [.rows 31 [(p).row dnil]]) := by
  refine ACalls.up ?_
  refine ACalls.intro (cs := []) (n := 2) Tryz.func144 rfl rfl rfl (by kernel_rfl) rfl ?_
  generalize hpost : (fun (o : Out) (H : Heap) => o = Out.ret (.tuple []) ∧ H = [.rows 31 [Pr.row (p) dnil]]) = post
  have ha : 0 ≤ p.x.a ∧ p.x.a < 8 := ⟨hx.a0, by have := hx.a7; omega⟩
  have ha' : p.x.a.toNat + 1 ≤ 31 := by omega
  simp only [go_sem,Nat.reduceAdd,Nat.reduceSub,Nat.reduceMul,Nat.reduceEqDiff,Nat.reduceLeDiff,Nat.reduceLT,↓reduceIte,Int.reduceToNat,reduceCtorEq,Int.reduceLT,Int.reduceLE,Int.reduceGT,Int.reduceGE,Int.reduceEq,Int.reduceNe,Int.reduceNeg,Int.reduceAdd,Int.reduceSub]
  exact fink rfl (Pr.row_lt (p) (d := dnil) (by first | rfl | simp [AV.lt]) 1) (by rw [← hpost]; exact ⟨rfl, rfl⟩)
theorem t2_c (p : Pr) (hx : p.x.ok) :
    ACalls Tryz.prog 145 [.ptr 0 0 0] [.rows 31 [p.row dnil]] (fun o H => o = .ret (.tuple []) ∧ H = [.rows 31 [(p.setA (p.old.get p.x.b)).row dnil]]) := by
  refine ACalls.up ?_
  refine ACalls.intro (cs := []) (n := 14) Tryz.func145 rfl rfl rfl (by kernel_rfl) rfl ?_
  generalize hpost : (fun (o : Out) (H : Heap) => o = Out.ret (.tuple []) ∧ H = [.rows 31 [Pr.row (p.setA (p.old.get p.x.b)) dnil]]) = post
  have ha : 0 ≤ p.x.a ∧ p.x.a < 8 := ⟨hx.a0, by have := hx.a7; omega⟩
  have ha' : p.x.a.toNat + 1 ≤ 31 := by omega
  simp only [go_sem,Nat.reduceAdd,Nat.reduceSub,Nat.reduceMul,Nat.reduceEqDiff,Nat.reduceLeDiff,Nat.reduceLT,↓reduceIte,Int.reduceToNat,reduceCtorEq,Int.reduceLT,Int.reduceLE,Int.reduceGT,Int.reduceGE,Int.reduceEq,Int.reduceNe,Int.reduceNeg,Int.reduceAdd,Int.reduceSub]
  refine draw [.qu 0 1, .qu 0 1, .qu 0 1, .qu 0 1, .qu 0 1, .rd 0 1, .qu 0 0, .mn 0, .qu 0 1, .qu 0 1, .qu 0 1, .qu 1 1, .mn 1] (by kernel_rfl) (by kernel_rfl) ?_
  simp only [go_sem,Nat.reduceAdd,Nat.reduceSub,Nat.reduceMul,Nat.reduceEqDiff,Nat.reduceLeDiff,Nat.reduceLT,↓reduceIte,Int.reduceToNat,reduceCtorEq,Int.reduceLT,Int.reduceLE,Int.reduceGT,Int.reduceGE,Int.reduceEq,Int.reduceNe,Int.reduceNeg,Int.reduceAdd,Int.reduceSub,Pr.row]
  refine dM_call (enters_of Tryz.func139 rfl (by decide)) (b_c p hx dnil rfl) ?_
  simp only [go_sem,Nat.reduceAdd,Nat.reduceSub,Nat.reduceMul,Nat.reduceEqDiff,Nat.reduceLeDiff,Nat.reduceLT,↓reduceIte,Int.reduceToNat,reduceCtorEq,Int.reduceLT,Int.reduceLE,Int.reduceGT,Int.reduceGE,Int.reduceEq,Int.reduceNe,Int.reduceNeg,Int.reduceAdd,Int.reduceSub,Pr.row,ha,ha',wr0 ha.1 ha.2]
  exact fink rfl (Pr.row_lt (p.setA (p.old.get p.x.b)) (d := dnil) (by first | rfl | simp [AV.lt]) 1) (by rw [← hpost]; exact ⟨rfl, rfl⟩)
theorem t3_c (p : Pr) (hx : p.x.ok) :
    ACalls Tryz.prog 146 [.ptr 0 0 0] [.rows 31 [p.row dnil]] (fun o H => o = .ret (.tuple []) ∧ H = [.rows 31 [(p.setA p.x.imm).row dnil]]) := by
  refine ACalls.up ?_
  refine ACalls.intro (cs := []) (n := 17) Tryz.func146 rfl rfl rfl (by kernel_rfl) rfl ?_
  generalize hpost : (fun (o : Out) (H : Heap) => o = Out.ret (.tuple []) ∧ H = [.rows 31 [Pr.row (p.setA p.x.imm) dnil]]) = post
  have ha : 0 ≤ p.x.a ∧ p.x.a < 8 := ⟨hx.a0, by have := hx.a7; omega⟩
  have ha' : p.x.a.toNat + 1 ≤ 31 := by omega
  simp only [go_sem,Nat.reduceAdd,Nat.reduceSub,Nat.reduceMul,Nat.reduceEqDiff,Nat.reduceLeDiff,Nat.reduceLT,↓reduceIte,Int.reduceToNat,reduceCtorEq,Int.reduceLT,Int.reduceLE,Int.reduceGT,Int.reduceGE,Int.reduceEq,Int.reduceNe,Int.reduceNeg,Int.reduceAdd,Int.reduceSub]
  refine draw [.qu 0 0, .qu 0 0, .qu 0 0, .qu 0 0, .qu 0 0, .qu 0 0, .qu 0 0, .qu 0 0, .qu 0 0, .qu 0 0, .qu 0 0, .qu 0 0, .qu 0 0, .qu 0 0, .qu 0 0, .mn 0] (by kernel_rfl) (by kernel_rfl) ?_
  simp only [go_sem,Nat.reduceAdd,Nat.reduceSub,Nat.reduceMul,Nat.reduceEqDiff,Nat.reduceLeDiff,Nat.reduceLT,↓reduceIte,Int.reduceToNat,reduceCtorEq,Int.reduceLT,Int.reduceLE,Int.reduceGT,Int.reduceGE,Int.reduceEq,Int.reduceNe,Int.reduceNeg,Int.reduceAdd,Int.reduceSub,Pr.row,ha,ha',wr0 ha.1 ha.2]
  exact fink rfl (Pr.row_lt (p.setA p.x.imm) (d := dnil) (by first | rfl | simp [AV.lt]) 1) (by rw [← hpost]; exact ⟨rfl, rfl⟩)
theorem t4_c (p : Pr) (hx : p.x.ok) :
    ACalls Tryz.prog 147 [.ptr 0 0 0] [.rows 31 [p.row dnil]] (fun o H => o = .ret (.tuple []) ∧ H = [.rows 31 [(p.setA p.x.imm).row dnil]]) := by
  refine ACalls.up ?_
  refine ACalls.intro (cs := []) (n := 17) Tryz.func147 rfl rfl rfl (by kernel_rfl) rfl ?_
  generalize hpost : (fun (o : Out) (H : Heap) => o = Out.ret (.tuple []) ∧ H = [.rows 31 [Pr.row (p.setA p.x.imm) dnil]]) = post
  have ha : 0 ≤ p.x.a ∧ p.x.a < 8 := ⟨hx.a0, by have := hx.a7; omega⟩
  have ha' : p.x.a.toNat + 1 ≤ 31 := by omega
  simp only [go_sem,Nat.reduceAdd,Nat.reduceSub,Nat.reduceMul,Nat.reduceEqDiff,Nat.reduceLeDiff,Nat.reduceLT,↓reduceIte,Int.reduceToNat,reduceCtorEq,Int.reduceLT,Int.reduceLE,Int.reduceGT,Int.reduceGE,Int.reduceEq,Int.reduceNe,Int.reduceNeg,Int.reduceAdd,Int.reduceSub]
  refine draw [.qu 0 0, .qu 0 0, .qu 0 0, .qu 0 0, .qu 0 0, .qu 0 0, .qu 0 0, .qu 0 0, .qu 0 0, .qu 0 0, .qu 0 0, .qu 0 0, .qu 0 0, .qu 0 0, .qu 0 0, .mn 0] (by kernel_rfl) (by kernel_rfl) ?_
  simp only [go_sem,Nat.reduceAdd,Nat.reduceSub,Nat.reduceMul,Nat.reduceEqDiff,Nat.reduceLeDiff,Nat.reduceLT,↓reduceIte,Int.reduceToNat,reduceCtorEq,Int.reduceLT,Int.reduceLE,Int.reduceGT,Int.reduceGE,Int.reduceEq,Int.reduceNe,Int.reduceNeg,Int.reduceAdd,Int.reduceSub,Pr.row,ha,ha',wr0 ha.1 ha.2]
  exact fink rfl (Pr.row_lt (p.setA p.x.imm) (d := dnil) (by first | rfl | simp [AV.lt]) 1) (by rw [← hpost]; exact ⟨rfl, rfl⟩)
theorem t5_c (p : Pr) (hx : p.x.ok) :
    ACalls Tryz.prog 148 [.ptr 0 0 0] [.rows 31 [p.row dnil]] (fun o H => o = .ret (.tuple []) ∧ H = [.rows 31 [(p.setA (iw .i64 (p.old.get p.x.a + p.x.imm))).row dnil]]) := by
  refine ACalls.up ?_
  refine ACalls.intro (cs := []) (n := 20) Tryz.func148 rfl rfl rfl (by kernel_rfl) rfl ?_
  generalize hpost : (fun (o : Out) (H : Heap) => o = Out.ret (.tuple []) ∧ H = [.rows 31 [Pr.row (p.setA (iw .i64 (p.old.get p.x.a + p.x.imm))) dnil]]) = post
  have ha : 0 ≤ p.x.a ∧ p.x.a < 8 := ⟨hx.a0, by have := hx.a7; omega⟩
  have ha' : p.x.a.toNat + 1 ≤ 31 := by omega
  simp only [go_sem,Nat.reduceAdd,Nat.reduceSub,Nat.reduceMul,Nat.reduceEqDiff,Nat.reduceLeDiff,Nat.reduceLT,↓reduceIte,Int.reduceToNat,reduceCtorEq,Int.reduceLT,Int.reduceLE,Int.reduceGT,Int.reduceGE,Int.reduceEq,Int.reduceNe,Int.reduceNeg,Int.reduceAdd,Int.reduceSub]
  refine draw [.qu 0 1, .qu 0 1, .qu 0 1, .qu 0 1, .qu 0 1, .rd 0 1, .qu 0 0, .mn 0, .qu 0 1, .qu 0 1, .qu 0 1, .qu 0 1, .rd 0 1, .qu 1 1, .qu 0 1, .qu 0 1, .qu 0 1, .qu 1 1, .mn 1] (by kernel_rfl) (by kernel_rfl) ?_
  simp only [go_sem,Nat.reduceAdd,Nat.reduceSub,Nat.reduceMul,Nat.reduceEqDiff,Nat.reduceLeDiff,Nat.reduceLT,↓reduceIte,Int.reduceToNat,reduceCtorEq,Int.reduceLT,Int.reduceLE,Int.reduceGT,Int.reduceGE,Int.reduceEq,Int.reduceNe,Int.reduceNeg,Int.reduceAdd,Int.reduceSub,Pr.row]
  refine dM_call (enters_of Tryz.func138 rfl (by decide)) (a_c p hx dnil rfl) ?_
  simp only [go_sem,Nat.reduceAdd,Nat.reduceSub,Nat.reduceMul,Nat.reduceEqDiff,Nat.reduceLeDiff,Nat.reduceLT,↓reduceIte,Int.reduceToNat,reduceCtorEq,Int.reduceLT,Int.reduceLE,Int.reduceGT,Int.reduceGE,Int.reduceEq,Int.reduceNe,Int.reduceNeg,Int.reduceAdd,Int.reduceSub,Pr.row,ha,ha',wr0 ha.1 ha.2]
  exact fink rfl (Pr.row_lt (p.setA (iw .i64 (p.old.get p.x.a + p.x.imm))) (d := dnil) (by first | rfl | simp [AV.lt]) 1) (by rw [← hpost]; exact ⟨rfl, rfl⟩)
theorem t6_c (p : Pr) (hx : p.x.ok) (hs : p.s.ok) (hf : (p.s.flt (iw .i64 (p.old.get p.x.b + p.x.imm)) 0 1 0).kind = 0) :
    ACalls Tryz.prog 149 [.ptr 0 0 0] [.rows 31 [p.row dnil]] (fun o H => o = .ret (.tuple []) ∧ H = [.rows 31 [(p.setA (rdL (p.s.sub (iw .i64 (p.old.get p.x.b + p.x.imm)) 1))).row dnil]]) := by
  refine ACalls.up ?_
  refine ACalls.intro (cs := []) (n := 22) Tryz.func149 rfl rfl rfl (by kernel_rfl) rfl ?_
  generalize hpost : (fun (o : Out) (H : Heap) => o = Out.ret (.tuple []) ∧ H = [.rows 31 [Pr.row (p.setA (rdL (p.s.sub (iw .i64 (p.old.get p.x.b + p.x.imm)) 1))) dnil]]) = post
  have ha : 0 ≤ p.x.a ∧ p.x.a < 8 := ⟨hx.a0, by have := hx.a7; omega⟩
  have ha' : p.x.a.toNat + 1 ≤ 31 := by omega
  simp only [go_sem,Nat.reduceAdd,Nat.reduceSub,Nat.reduceMul,Nat.reduceEqDiff,Nat.reduceLeDiff,Nat.reduceLT,↓reduceIte,Int.reduceToNat,reduceCtorEq,Int.reduceLT,Int.reduceLE,Int.reduceGT,Int.reduceGE,Int.reduceEq,Int.reduceNe,Int.reduceNeg,Int.reduceAdd,Int.reduceSub]
  refine draw [.qu 0 2, .qu 0 2, .qu 0 2, .qu 0 2, .qu 0 2, .rd 0 2, .qu 0 1, .qu 0 0, .mn 0, .qu 0 1, .qu 0 1, .qu 0 1, .qu 0 1, .rd 0 1, .qu 1 1, .mn 1, .qu 0 2, .qu 0 2, .qu 0 2, .qu 2 2, .mn 2] (by kernel_rfl) (by kernel_rfl) ?_
  simp only [go_sem,Nat.reduceAdd,Nat.reduceSub,Nat.reduceMul,Nat.reduceEqDiff,Nat.reduceLeDiff,Nat.reduceLT,↓reduceIte,Int.reduceToNat,reduceCtorEq,Int.reduceLT,Int.reduceLE,Int.reduceGT,Int.reduceGE,Int.reduceEq,Int.reduceNe,Int.reduceNeg,Int.reduceAdd,Int.reduceSub,Pr.row]
  refine dM_call (enters_of Tryz.func139 rfl (by decide)) (b_c p hx dnil rfl) ?_
  simp only [go_sem,Nat.reduceAdd,Nat.reduceSub,Nat.reduceMul,Nat.reduceEqDiff,Nat.reduceLeDiff,Nat.reduceLT,↓reduceIte,Int.reduceToNat,reduceCtorEq,Int.reduceLT,Int.reduceLE,Int.reduceGT,Int.reduceGE,Int.reduceEq,Int.reduceNe,Int.reduceNeg,Int.reduceAdd,Int.reduceSub,Pr.row]
  refine dM_call (enters_of Tryz.func150 rfl (by decide)) (load_c p hs dnil rfl _ (iw_i64 _) 1 (by decide) (by decide) hf) ?_
  simp only [go_sem,Nat.reduceAdd,Nat.reduceSub,Nat.reduceMul,Nat.reduceEqDiff,Nat.reduceLeDiff,Nat.reduceLT,↓reduceIte,Int.reduceToNat,reduceCtorEq,Int.reduceLT,Int.reduceLE,Int.reduceGT,Int.reduceGE,Int.reduceEq,Int.reduceNe,Int.reduceNeg,Int.reduceAdd,Int.reduceSub,Pr.row,ha,ha',wr0 ha.1 ha.2]
  exact fink rfl (Pr.row_lt (p.setA (rdL (p.s.sub (iw .i64 (p.old.get p.x.b + p.x.imm)) 1))) (d := dnil) (by first | rfl | simp [AV.lt]) 1) (by rw [← hpost]; exact ⟨rfl, rfl⟩)
theorem t7_c (p : Pr) (hx : p.x.ok) (hs : p.s.ok) (hf : (p.s.flt (iw .i64 (p.old.get p.x.b + p.x.imm)) 0 8 0).kind = 0) :
    ACalls Tryz.prog 151 [.ptr 0 0 0] [.rows 31 [p.row dnil]] (fun o H => o = .ret (.tuple []) ∧ H = [.rows 31 [(p.setA (rdL (p.s.sub (iw .i64 (p.old.get p.x.b + p.x.imm)) 8))).row dnil]]) := by
  refine ACalls.up ?_
  refine ACalls.intro (cs := []) (n := 22) Tryz.func151 rfl rfl rfl (by kernel_rfl) rfl ?_
  generalize hpost : (fun (o : Out) (H : Heap) => o = Out.ret (.tuple []) ∧ H = [.rows 31 [Pr.row (p.setA (rdL (p.s.sub (iw .i64 (p.old.get p.x.b + p.x.imm)) 8))) dnil]]) = post
  have ha : 0 ≤ p.x.a ∧ p.x.a < 8 := ⟨hx.a0, by have := hx.a7; omega⟩
  have ha' : p.x.a.toNat + 1 ≤ 31 := by omega
  simp only [go_sem,Nat.reduceAdd,Nat.reduceSub,Nat.reduceMul,Nat.reduceEqDiff,Nat.reduceLeDiff,Nat.reduceLT,↓reduceIte,Int.reduceToNat,reduceCtorEq,Int.reduceLT,Int.reduceLE,Int.reduceGT,Int.reduceGE,Int.reduceEq,Int.reduceNe,Int.reduceNeg,Int.reduceAdd,Int.reduceSub]
  refine draw [.qu 0 2, .qu 0 2, .qu 0 2, .qu 0 2, .qu 0 2, .rd 0 2, .qu 0 1, .qu 0 0, .mn 0, .qu 0 1, .qu 0 1, .qu 0 1, .qu 0 1, .rd 0 1, .qu 1 1, .mn 1, .qu 0 2, .qu 0 2, .qu 0 2, .qu 2 2, .mn 2] (by kernel_rfl) (by kernel_rfl) ?_
  simp only [go_sem,Nat.reduceAdd,Nat.reduceSub,Nat.reduceMul,Nat.reduceEqDiff,Nat.reduceLeDiff,Nat.reduceLT,↓reduceIte,Int.reduceToNat,reduceCtorEq,Int.reduceLT,Int.reduceLE,Int.reduceGT,Int.reduceGE,Int.reduceEq,Int.reduceNe,Int.reduceNeg,Int.reduceAdd,Int.reduceSub,Pr.row]
  refine dM_call (enters_of Tryz.func139 rfl (by decide)) (b_c p hx dnil rfl) ?_
  simp only [go_sem,Nat.reduceAdd,Nat.reduceSub,Nat.reduceMul,Nat.reduceEqDiff,Nat.reduceLeDiff,Nat.reduceLT,↓reduceIte,Int.reduceToNat,reduceCtorEq,Int.reduceLT,Int.reduceLE,Int.reduceGT,Int.reduceGE,Int.reduceEq,Int.reduceNe,Int.reduceNeg,Int.reduceAdd,Int.reduceSub,Pr.row]
  refine dM_call (enters_of Tryz.func150 rfl (by decide)) (load_c p hs dnil rfl _ (iw_i64 _) 8 (by decide) (by decide) hf) ?_
  simp only [go_sem,Nat.reduceAdd,Nat.reduceSub,Nat.reduceMul,Nat.reduceEqDiff,Nat.reduceLeDiff,Nat.reduceLT,↓reduceIte,Int.reduceToNat,reduceCtorEq,Int.reduceLT,Int.reduceLE,Int.reduceGT,Int.reduceGE,Int.reduceEq,Int.reduceNe,Int.reduceNeg,Int.reduceAdd,Int.reduceSub,Pr.row,ha,ha',wr0 ha.1 ha.2]
  exact fink rfl (Pr.row_lt (p.setA (rdL (p.s.sub (iw .i64 (p.old.get p.x.b + p.x.imm)) 8))) (d := dnil) (by first | rfl | simp [AV.lt]) 1) (by rw [← hpost]; exact ⟨rfl, rfl⟩)
theorem t8_c (p : Pr) (hx : p.x.ok) :
    ACalls Tryz.prog 152 [.ptr 0 0 0] [.rows 31 [p.row dnil]] (fun o H => o = .ret (.tuple []) ∧ H = [.rows 31 [({ p with pos := (iw .i64 (p.old.get p.x.b + p.x.imm)) }).row (dby (stL 1 (p.old.get p.x.a)))]]) := by
  refine ACalls.up ?_
  refine ACalls.intro (cs := []) (n := 14) Tryz.func152 rfl rfl rfl (by kernel_rfl) rfl ?_
  generalize hpost : (fun (o : Out) (H : Heap) => o = Out.ret (.tuple []) ∧ H = [.rows 31 [Pr.row ({ p with pos := (iw .i64 (p.old.get p.x.b + p.x.imm)) }) (dby (stL 1 (p.old.get p.x.a)))]]) = post
  have ha : 0 ≤ p.x.a ∧ p.x.a < 8 := ⟨hx.a0, by have := hx.a7; omega⟩
  have ha' : p.x.a.toNat + 1 ≤ 31 := by omega
  simp only [go_sem,Nat.reduceAdd,Nat.reduceSub,Nat.reduceMul,Nat.reduceEqDiff,Nat.reduceLeDiff,Nat.reduceLT,↓reduceIte,Int.reduceToNat,reduceCtorEq,Int.reduceLT,Int.reduceLE,Int.reduceGT,Int.reduceGE,Int.reduceEq,Int.reduceNe,Int.reduceNeg,Int.reduceAdd,Int.reduceSub]
  refine draw [.qu 0 2, .qu 0 0, .mn 0, .qu 0 2, .qu 0 2, .qu 0 2, .qu 0 2, .rd 0 2, .qu 1 2, .qu 0 1, .mn 1, .mn 2] (by kernel_rfl) (by kernel_rfl) ?_
  simp only [go_sem,Nat.reduceAdd,Nat.reduceSub,Nat.reduceMul,Nat.reduceEqDiff,Nat.reduceLeDiff,Nat.reduceLT,↓reduceIte,Int.reduceToNat,reduceCtorEq,Int.reduceLT,Int.reduceLE,Int.reduceGT,Int.reduceGE,Int.reduceEq,Int.reduceNe,Int.reduceNeg,Int.reduceAdd,Int.reduceSub,Pr.row]
  refine dM_call (enters_of Tryz.func139 rfl (by decide)) (b_c p hx dnil rfl) ?_
  simp only [go_sem,Nat.reduceAdd,Nat.reduceSub,Nat.reduceMul,Nat.reduceEqDiff,Nat.reduceLeDiff,Nat.reduceLT,↓reduceIte,Int.reduceToNat,reduceCtorEq,Int.reduceLT,Int.reduceLE,Int.reduceGT,Int.reduceGE,Int.reduceEq,Int.reduceNe,Int.reduceNeg,Int.reduceAdd,Int.reduceSub,Pr.row]
  refine dM_call (enters_of Tryz.func138 rfl (by decide)) (a_c p hx dnil rfl) ?_
  simp only [go_sem,Nat.reduceAdd,Nat.reduceSub,Nat.reduceMul,Nat.reduceEqDiff,Nat.reduceLeDiff,Nat.reduceLT,↓reduceIte,Int.reduceToNat,reduceCtorEq,Int.reduceLT,Int.reduceLE,Int.reduceGT,Int.reduceGE,Int.reduceEq,Int.reduceNe,Int.reduceNeg,Int.reduceAdd,Int.reduceSub,Pr.row]
  refine dM_call (enters_of Tryz.func153 rfl (by decide)) (store_c p _ _ 1 (by decide)) ?_
  simp only [go_sem,Nat.reduceAdd,Nat.reduceSub,Nat.reduceMul,Nat.reduceEqDiff,Nat.reduceLeDiff,Nat.reduceLT,↓reduceIte,Int.reduceToNat,reduceCtorEq,Int.reduceLT,Int.reduceLE,Int.reduceGT,Int.reduceGE,Int.reduceEq,Int.reduceNe,Int.reduceNeg,Int.reduceAdd,Int.reduceSub,Pr.row]
  exact fink rfl (Pr.row_lt ({ p with pos := (iw .i64 (p.old.get p.x.b + p.x.imm)) }) (d := (dby (stL 1 (p.old.get p.x.a)))) (by first | rfl | simp [AV.lt]) 1) (by rw [← hpost]; exact ⟨rfl, rfl⟩)
theorem t9_c (p : Pr) (hx : p.x.ok) :
    ACalls Tryz.prog 154 [.ptr 0 0 0] [.rows 31 [p.row dnil]] (fun o H => o = .ret (.tuple []) ∧ H = [.rows 31 [({ p with pos := (iw .i64 (p.old.get p.x.b + p.x.imm)) }).row (dby (stL 8 (p.old.get p.x.a)))]]) := by
  refine ACalls.up ?_
  refine ACalls.intro (cs := []) (n := 14) Tryz.func154 rfl rfl rfl (by kernel_rfl) rfl ?_
  generalize hpost : (fun (o : Out) (H : Heap) => o = Out.ret (.tuple []) ∧ H = [.rows 31 [Pr.row ({ p with pos := (iw .i64 (p.old.get p.x.b + p.x.imm)) }) (dby (stL 8 (p.old.get p.x.a)))]]) = post
  have ha : 0 ≤ p.x.a ∧ p.x.a < 8 := ⟨hx.a0, by have := hx.a7; omega⟩
  have ha' : p.x.a.toNat + 1 ≤ 31 := by omega
  simp only [go_sem,Nat.reduceAdd,Nat.reduceSub,Nat.reduceMul,Nat.reduceEqDiff,Nat.reduceLeDiff,Nat.reduceLT,↓reduceIte,Int.reduceToNat,reduceCtorEq,Int.reduceLT,Int.reduceLE,Int.reduceGT,Int.reduceGE,Int.reduceEq,Int.reduceNe,Int.reduceNeg,Int.reduceAdd,Int.reduceSub]
  refine draw [.qu 0 2, .qu 0 0, .mn 0, .qu 0 2, .qu 0 2, .qu 0 2, .qu 0 2, .rd 0 2, .qu 1 2, .qu 0 1, .mn 1, .mn 2] (by kernel_rfl) (by kernel_rfl) ?_
  simp only [go_sem,Nat.reduceAdd,Nat.reduceSub,Nat.reduceMul,Nat.reduceEqDiff,Nat.reduceLeDiff,Nat.reduceLT,↓reduceIte,Int.reduceToNat,reduceCtorEq,Int.reduceLT,Int.reduceLE,Int.reduceGT,Int.reduceGE,Int.reduceEq,Int.reduceNe,Int.reduceNeg,Int.reduceAdd,Int.reduceSub,Pr.row]
  refine dM_call (enters_of Tryz.func139 rfl (by decide)) (b_c p hx dnil rfl) ?_
  simp only [go_sem,Nat.reduceAdd,Nat.reduceSub,Nat.reduceMul,Nat.reduceEqDiff,Nat.reduceLeDiff,Nat.reduceLT,↓reduceIte,Int.reduceToNat,reduceCtorEq,Int.reduceLT,Int.reduceLE,Int.reduceGT,Int.reduceGE,Int.reduceEq,Int.reduceNe,Int.reduceNeg,Int.reduceAdd,Int.reduceSub,Pr.row]
  refine dM_call (enters_of Tryz.func138 rfl (by decide)) (a_c p hx dnil rfl) ?_
  simp only [go_sem,Nat.reduceAdd,Nat.reduceSub,Nat.reduceMul,Nat.reduceEqDiff,Nat.reduceLeDiff,Nat.reduceLT,↓reduceIte,Int.reduceToNat,reduceCtorEq,Int.reduceLT,Int.reduceLE,Int.reduceGT,Int.reduceGE,Int.reduceEq,Int.reduceNe,Int.reduceNeg,Int.reduceAdd,Int.reduceSub,Pr.row]
  refine dM_call (enters_of Tryz.func153 rfl (by decide)) (store_c p _ _ 8 (by decide)) ?_
  simp only [go_sem,Nat.reduceAdd,Nat.reduceSub,Nat.reduceMul,Nat.reduceEqDiff,Nat.reduceLeDiff,Nat.reduceLT,↓reduceIte,Int.reduceToNat,reduceCtorEq,Int.reduceLT,Int.reduceLE,Int.reduceGT,Int.reduceGE,Int.reduceEq,Int.reduceNe,Int.reduceNeg,Int.reduceAdd,Int.reduceSub,Pr.row]
  exact fink rfl (Pr.row_lt ({ p with pos := (iw .i64 (p.old.get p.x.b + p.x.imm)) }) (d := (dby (stL 8 (p.old.get p.x.a)))) (by first | rfl | simp [AV.lt]) 1) (by rw [← hpost]; exact ⟨rfl, rfl⟩)
theorem t10_c (p : Pr) (hx : p.x.ok) :
    ACalls Tryz.prog 155 [.ptr 0 0 0] [.rows 31 [p.row dnil]] (fun o H => o = .ret (.tuple []) ∧ H = [.rows 31 [({ p.set7 (iw .i64 (p.old.r7 - 8)) with pos := iw .i64 (p.old.r7 - 8), rg := { (p.set7 (iw .i64 (p.old.r7 - 8))).rg with pc := iw .i64 (p.next + p.x.imm) } }).row (dby (stL 8 p.next))]]) := by
  refine ACalls.up ?_
  refine ACalls.intro (cs := []) (n := 22) Tryz.func155 rfl rfl rfl (by kernel_rfl) rfl ?_
  generalize hpost : (fun (o : Out) (H : Heap) => o = Out.ret (.tuple []) ∧ H = [.rows 31 [Pr.row ({ p.set7 (iw .i64 (p.old.r7 - 8)) with pos := iw .i64 (p.old.r7 - 8), rg := { (p.set7 (iw .i64 (p.old.r7 - 8))).rg with pc := iw .i64 (p.next + p.x.imm) } }) (dby (stL 8 p.next))]]) = post
  have ha : 0 ≤ p.x.a ∧ p.x.a < 8 := ⟨hx.a0, by have := hx.a7; omega⟩
  have ha' : p.x.a.toNat + 1 ≤ 31 := by omega
  simp only [go_sem,Nat.reduceAdd,Nat.reduceSub,Nat.reduceMul,Nat.reduceEqDiff,Nat.reduceLeDiff,Nat.reduceLT,↓reduceIte,Int.reduceToNat,reduceCtorEq,Int.reduceLT,Int.reduceLE,Int.reduceGT,Int.reduceGE,Int.reduceEq,Int.reduceNe,Int.reduceNeg,Int.reduceAdd,Int.reduceSub,Pr.row]
  refine rK_use (enters_of Tryz.func156 rfl (by decide)) (push_c p p.next) ?_
  simp only [go_sem,Nat.reduceAdd,Nat.reduceSub,Nat.reduceMul,Nat.reduceEqDiff,Nat.reduceLeDiff,Nat.reduceLT,↓reduceIte,Int.reduceToNat,reduceCtorEq,Int.reduceLT,Int.reduceLE,Int.reduceGT,Int.reduceGE,Int.reduceEq,Int.reduceNe,Int.reduceNeg,Int.reduceAdd,Int.reduceSub]
  refine draw [.qu 0 0, .qu 0 0, .qu 0 0, .qu 0 0, .qu 0 0, .qu 0 0, .qu 0 0, .qu 0 0, .qu 0 0, .qu 0 0, .qu 0 0, .qu 0 0, .qu 0 0, .qu 0 0, .mn 0] (by kernel_rfl) (by kernel_rfl) ?_
  simp only [go_sem,Nat.reduceAdd,Nat.reduceSub,Nat.reduceMul,Nat.reduceEqDiff,Nat.reduceLeDiff,Nat.reduceLT,↓reduceIte,Int.reduceToNat,reduceCtorEq,Int.reduceLT,Int.reduceLE,Int.reduceGT,Int.reduceGE,Int.reduceEq,Int.reduceNe,Int.reduceNeg,Int.reduceAdd,Int.reduceSub,Pr.row,Pr.set7]
  exact fink rfl (Pr.row_lt ({ p.set7 (iw .i64 (p.old.r7 - 8)) with pos := iw .i64 (p.old.r7 - 8), rg := { (p.set7 (iw .i64 (p.old.r7 - 8))).rg with pc := iw .i64 (p.next + p.x.imm) } }) (d := (dby (stL 8 p.next))) (by first | rfl | simp [AV.lt]) 1) (by rw [← hpost]; exact ⟨rfl, rfl⟩)
theorem t11_c (p : Pr) (hx : p.x.ok) :
    ACalls Tryz.prog 157 [.ptr 0 0 0] [.rows 31 [p.row dnil]] (fun o H => o = .ret (.tuple []) ∧ H = [.rows 31 [({ p.set7 (iw .i64 (p.old.r7 - 8)) with pos := iw .i64 (p.old.r7 - 8), rg := { (p.set7 (iw .i64 (p.old.r7 - 8))).rg with pc := p.old.get p.x.a } }).row (dby (stL 8 p.next))]]) := by
  refine ACalls.up ?_
  refine ACalls.intro (cs := []) (n := 14) Tryz.func157 rfl rfl rfl (by kernel_rfl) rfl ?_
  generalize hpost : (fun (o : Out) (H : Heap) => o = Out.ret (.tuple []) ∧ H = [.rows 31 [Pr.row ({ p.set7 (iw .i64 (p.old.r7 - 8)) with pos := iw .i64 (p.old.r7 - 8), rg := { (p.set7 (iw .i64 (p.old.r7 - 8))).rg with pc := p.old.get p.x.a } }) (dby (stL 8 p.next))]]) = post
  have ha : 0 ≤ p.x.a ∧ p.x.a < 8 := ⟨hx.a0, by have := hx.a7; omega⟩
  have ha' : p.x.a.toNat + 1 ≤ 31 := by omega
  simp only [go_sem,Nat.reduceAdd,Nat.reduceSub,Nat.reduceMul,Nat.reduceEqDiff,Nat.reduceLeDiff,Nat.reduceLT,↓reduceIte,Int.reduceToNat,reduceCtorEq,Int.reduceLT,Int.reduceLE,Int.reduceGT,Int.reduceGE,Int.reduceEq,Int.reduceNe,Int.reduceNeg,Int.reduceAdd,Int.reduceSub,Pr.row]
  refine rK_use (enters_of Tryz.func156 rfl (by decide)) (push_c p p.next) ?_
  simp only [go_sem,Nat.reduceAdd,Nat.reduceSub,Nat.reduceMul,Nat.reduceEqDiff,Nat.reduceLeDiff,Nat.reduceLT,↓reduceIte,Int.reduceToNat,reduceCtorEq,Int.reduceLT,Int.reduceLE,Int.reduceGT,Int.reduceGE,Int.reduceEq,Int.reduceNe,Int.reduceNeg,Int.reduceAdd,Int.reduceSub]
  refine rK_use (enters_of Tryz.func138 rfl (by decide)) (a_c ({ p.set7 (iw .i64 (p.old.r7 - 8)) with pos := iw .i64 (p.old.r7 - 8) : Pr }) hx (dby (stL 8 p.next)) (by simp [AV.lt])) ?_
  simp only [go_sem,Nat.reduceAdd,Nat.reduceSub,Nat.reduceMul,Nat.reduceEqDiff,Nat.reduceLeDiff,Nat.reduceLT,↓reduceIte,Int.reduceToNat,reduceCtorEq,Int.reduceLT,Int.reduceLE,Int.reduceGT,Int.reduceGE,Int.reduceEq,Int.reduceNe,Int.reduceNeg,Int.reduceAdd,Int.reduceSub,Pr.row,Pr.set7]
  exact fink rfl (Pr.row_lt ({ p.set7 (iw .i64 (p.old.r7 - 8)) with pos := iw .i64 (p.old.r7 - 8), rg := { (p.set7 (iw .i64 (p.old.r7 - 8))).rg with pc := p.old.get p.x.a } }) (d := (dby (stL 8 p.next))) (by first | rfl | simp [AV.lt]) 1) (by rw [← hpost]; exact ⟨rfl, rfl⟩)
theorem t12_c (p : Pr) (hx : p.x.ok) (hs : p.s.ok) (h7 : I64 p.old.r7) (hf : (p.s.flt p.old.r7 0 8 0).kind = 0) :
    ACalls Tryz.prog 158 [.ptr 0 0 0] [.rows 31 [p.row dnil]] (fun o H => o = .ret (.tuple []) ∧ H = [.rows 31 [({ p with rg := { p.rg with pc := rdL (p.s.sub p.old.r7 8), r7 := iw .i64 (p.old.r7 + 8) } }).row dnil]]) := by
  refine ACalls.up ?_
  refine ACalls.intro (cs := []) (n := 26) Tryz.func158 rfl rfl rfl (by kernel_rfl) rfl ?_
  generalize hpost : (fun (o : Out) (H : Heap) => o = Out.ret (.tuple []) ∧ H = [.rows 31 [Pr.row ({ p with rg := { p.rg with pc := rdL (p.s.sub p.old.r7 8), r7 := iw .i64 (p.old.r7 + 8) } }) dnil]]) = post
  have ha : 0 ≤ p.x.a ∧ p.x.a < 8 := ⟨hx.a0, by have := hx.a7; omega⟩
  have ha' : p.x.a.toNat + 1 ≤ 31 := by omega
  simp only [go_sem,Nat.reduceAdd,Nat.reduceSub,Nat.reduceMul,Nat.reduceEqDiff,Nat.reduceLeDiff,Nat.reduceLT,↓reduceIte,Int.reduceToNat,reduceCtorEq,Int.reduceLT,Int.reduceLE,Int.reduceGT,Int.reduceGE,Int.reduceEq,Int.reduceNe,Int.reduceNeg,Int.reduceAdd,Int.reduceSub,Pr.row]
  refine rK_use (enters_of Tryz.func150 rfl (by decide)) (load_c p hs dnil rfl p.old.r7 h7 8 (by decide) (by decide) hf) ?_
  simp only [go_sem,Nat.reduceAdd,Nat.reduceSub,Nat.reduceMul,Nat.reduceEqDiff,Nat.reduceLeDiff,Nat.reduceLT,↓reduceIte,Int.reduceToNat,reduceCtorEq,Int.reduceLT,Int.reduceLE,Int.reduceGT,Int.reduceGE,Int.reduceEq,Int.reduceNe,Int.reduceNeg,Int.reduceAdd,Int.reduceSub,Pr.row]
  refine draw [.qu 0 0, .qu 0 0, .qu 0 0, .qu 0 0, .qu 0 0, .qu 0 0, .qu 0 0, .qu 0 0, .qu 0 0, .qu 0 0, .qu 0 0, .qu 0 0, .mn 0] (by kernel_rfl) (by kernel_rfl) ?_
  simp only [go_sem,Nat.reduceAdd,Nat.reduceSub,Nat.reduceMul,Nat.reduceEqDiff,Nat.reduceLeDiff,Nat.reduceLT,↓reduceIte,Int.reduceToNat,reduceCtorEq,Int.reduceLT,Int.reduceLE,Int.reduceGT,Int.reduceGE,Int.reduceEq,Int.reduceNe,Int.reduceNeg,Int.reduceAdd,Int.reduceSub,Pr.row]
  exact fink rfl (Pr.row_lt ({ p with rg := { p.rg with pc := rdL (p.s.sub p.old.r7 8), r7 := iw .i64 (p.old.r7 + 8) } }) (d := dnil) (by first | rfl | simp [AV.lt]) 1) (by rw [← hpost]; exact ⟨rfl, rfl⟩)
theorem t13_c (p : Pr) (hx : p.x.ok) :
    ACalls Tryz.prog 159 [.ptr 0 0 0] [.rows 31 [p.row dnil]] (fun o H => o = .ret (.tuple []) ∧ H = [.rows 31 [({ p.set7 (iw .i64 (p.old.r7 - 8)) with pos := iw .i64 (p.old.r7 - 8) : Pr }).row (dby (stL 8 (p.old.get p.x.a)))]]) := by
  refine ACalls.up ?_
  refine ACalls.intro (cs := []) (n := 6) Tryz.func159 rfl rfl rfl (by kernel_rfl) rfl ?_
  generalize hpost : (fun (o : Out) (H : Heap) => o = Out.ret (.tuple []) ∧ H = [.rows 31 [Pr.row ({ p.set7 (iw .i64 (p.old.r7 - 8)) with pos := iw .i64 (p.old.r7 - 8) : Pr }) (dby (stL 8 (p.old.get p.x.a)))]]) = post
  have ha : 0 ≤ p.x.a ∧ p.x.a < 8 := ⟨hx.a0, by have := hx.a7; omega⟩
  have ha' : p.x.a.toNat + 1 ≤ 31 := by omega
  simp only [go_sem,Nat.reduceAdd,Nat.reduceSub,Nat.reduceMul,Nat.reduceEqDiff,Nat.reduceLeDiff,Nat.reduceLT,↓reduceIte,Int.reduceToNat,reduceCtorEq,Int.reduceLT,Int.reduceLE,Int.reduceGT,Int.reduceGE,Int.reduceEq,Int.reduceNe,Int.reduceNeg,Int.reduceAdd,Int.reduceSub]
  refine rK_use (enters_of Tryz.func138 rfl (by decide)) (a_c p hx dnil rfl) ?_
  simp only [go_sem,Nat.reduceAdd,Nat.reduceSub,Nat.reduceMul,Nat.reduceEqDiff,Nat.reduceLeDiff,Nat.reduceLT,↓reduceIte,Int.reduceToNat,reduceCtorEq,Int.reduceLT,Int.reduceLE,Int.reduceGT,Int.reduceGE,Int.reduceEq,Int.reduceNe,Int.reduceNeg,Int.reduceAdd,Int.reduceSub]
  refine rK_use (enters_of Tryz.func156 rfl (by decide)) (push_c p _) ?_
  simp only [go_sem,Nat.reduceAdd,Nat.reduceSub,Nat.reduceMul,Nat.reduceEqDiff,Nat.reduceLeDiff,Nat.reduceLT,↓reduceIte,Int.reduceToNat,reduceCtorEq,Int.reduceLT,Int.reduceLE,Int.reduceGT,Int.reduceGE,Int.reduceEq,Int.reduceNe,Int.reduceNeg,Int.reduceAdd,Int.reduceSub]
  exact fink rfl (Pr.row_lt ({ p.set7 (iw .i64 (p.old.r7 - 8)) with pos := iw .i64 (p.old.r7 - 8) : Pr }) (d := (dby (stL 8 (p.old.get p.x.a)))) (by first | rfl | simp [AV.lt]) 1) (by rw [← hpost]; exact ⟨rfl, rfl⟩)
theorem t14_c (p : Pr) (hx : p.x.ok) (hs : p.s.ok) (h7 : I64 p.old.r7) (hf : (p.s.flt p.old.r7 0 8 0).kind = 0) :
    ACalls Tryz.prog 160 [.ptr 0 0 0] [.rows 31 [p.row dnil]] (fun o H => o = .ret (.tuple []) ∧ H = [.rows 31 [((p.set7 (iw .i64 (p.old.r7 + 8))).setA (rdL (p.s.sub p.old.r7 8))).row dnil]]) := by
  refine ACalls.up ?_
  refine ACalls.intro (cs := []) (n := 32) Tryz.func160 rfl rfl rfl (by kernel_rfl) rfl ?_
  generalize hpost : (fun (o : Out) (H : Heap) => o = Out.ret (.tuple []) ∧ H = [.rows 31 [Pr.row ((p.set7 (iw .i64 (p.old.r7 + 8))).setA (rdL (p.s.sub p.old.r7 8))) dnil]]) = post
  have ha : 0 ≤ p.x.a ∧ p.x.a < 8 := ⟨hx.a0, by have := hx.a7; omega⟩
  have ha' : p.x.a.toNat + 1 ≤ 31 := by omega
  simp only [go_sem,Nat.reduceAdd,Nat.reduceSub,Nat.reduceMul,Nat.reduceEqDiff,Nat.reduceLeDiff,Nat.reduceLT,↓reduceIte,Int.reduceToNat,reduceCtorEq,Int.reduceLT,Int.reduceLE,Int.reduceGT,Int.reduceGE,Int.reduceEq,Int.reduceNe,Int.reduceNeg,Int.reduceAdd,Int.reduceSub,Pr.row]
  refine draw [.qu 0 0, .qu 0 0, .qu 0 0, .qu 0 0, .qu 0 0, .qu 0 0, .qu 0 0, .qu 0 0, .qu 0 0, .qu 0 0, .qu 0 0, .qu 0 0, .mn 0] (by kernel_rfl) (by kernel_rfl) ?_
  simp only [go_sem,Nat.reduceAdd,Nat.reduceSub,Nat.reduceMul,Nat.reduceEqDiff,Nat.reduceLeDiff,Nat.reduceLT,↓reduceIte,Int.reduceToNat,reduceCtorEq,Int.reduceLT,Int.reduceLE,Int.reduceGT,Int.reduceGE,Int.reduceEq,Int.reduceNe,Int.reduceNeg,Int.reduceAdd,Int.reduceSub,Pr.row]
  refine draw [.qu 0 1, .qu 0 1, .qu 0 1, .qu 0 1, .qu 0 1, .rd 0 1, .qu 0 0, .qu 0 0, .qu 0 0, .qu 0 0, .qu 0 0, .qu 0 0, .qu 0 0, .mn 0, .qu 0 1, .qu 0 1, .qu 0 1, .qu 1 1, .mn 1] (by kernel_rfl) (by kernel_rfl) ?_
  simp only [go_sem,Nat.reduceAdd,Nat.reduceSub,Nat.reduceMul,Nat.reduceEqDiff,Nat.reduceLeDiff,Nat.reduceLT,↓reduceIte,Int.reduceToNat,reduceCtorEq,Int.reduceLT,Int.reduceLE,Int.reduceGT,Int.reduceGE,Int.reduceEq,Int.reduceNe,Int.reduceNeg,Int.reduceAdd,Int.reduceSub,Pr.row]
  refine dM_call (enters_of Tryz.func150 rfl (by decide)) (load_c (p.set7 (iw .i64 (p.old.r7 + 8))) hs dnil rfl p.old.r7 h7 8 (by decide) (by decide) hf) ?_
  simp only [go_sem,Nat.reduceAdd,Nat.reduceSub,Nat.reduceMul,Nat.reduceEqDiff,Nat.reduceLeDiff,Nat.reduceLT,↓reduceIte,Int.reduceToNat,reduceCtorEq,Int.reduceLT,Int.reduceLE,Int.reduceGT,Int.reduceGE,Int.reduceEq,Int.reduceNe,Int.reduceNeg,Int.reduceAdd,Int.reduceSub,Pr.row,Pr.set7,ha,ha',wr0 ha.1 ha.2]
  exact fink rfl (Pr.row_lt ((p.set7 (iw .i64 (p.old.r7 + 8))).setA (rdL (p.s.sub p.old.r7 8))) (d := dnil) (by first | rfl | simp [AV.lt]) 1) (by rw [← hpost]; exact ⟨rfl, rfl⟩)
theorem t15_c (p : Pr) (hx : p.x.ok) :
    ACalls Tryz.prog 161 [.ptr 0 0 0] [.rows 31 [p.row dnil]] (fun o H => o = .ret (.tuple []) ∧ H = [.rows 31 [(p.setA (iw .i64 (p.next + p.x.imm))).row dnil]]) := by
  refine ACalls.up ?_
  refine ACalls.intro (cs := []) (n := 22) Tryz.func161 rfl rfl rfl (by kernel_rfl) rfl ?_
  generalize hpost : (fun (o : Out) (H : Heap) => o = Out.ret (.tuple []) ∧ H = [.rows 31 [Pr.row (p.setA (iw .i64 (p.next + p.x.imm))) dnil]]) = post
  have ha : 0 ≤ p.x.a ∧ p.x.a < 8 := ⟨hx.a0, by have := hx.a7; omega⟩
  have ha' : p.x.a.toNat + 1 ≤ 31 := by omega
  simp only [go_sem,Nat.reduceAdd,Nat.reduceSub,Nat.reduceMul,Nat.reduceEqDiff,Nat.reduceLeDiff,Nat.reduceLT,↓reduceIte,Int.reduceToNat,reduceCtorEq,Int.reduceLT,Int.reduceLE,Int.reduceGT,Int.reduceGE,Int.reduceEq,Int.reduceNe,Int.reduceNeg,Int.reduceAdd,Int.reduceSub]
  refine draw [.qu 0 0, .qu 0 0, .qu 0 0, .qu 0 0, .qu 0 0, .qu 0 0, .qu 0 0, .qu 0 0, .qu 0 0, .qu 0 0, .qu 0 0, .qu 0 0, .qu 0 0, .qu 0 0, .qu 0 0, .qu 0 0, .qu 0 0, .qu 0 0, .qu 0 0, .qu 0 0, .mn 0] (by kernel_rfl) (by kernel_rfl) ?_
  simp only [go_sem,Nat.reduceAdd,Nat.reduceSub,Nat.reduceMul,Nat.reduceEqDiff,Nat.reduceLeDiff,Nat.reduceLT,↓reduceIte,Int.reduceToNat,reduceCtorEq,Int.reduceLT,Int.reduceLE,Int.reduceGT,Int.reduceGE,Int.reduceEq,Int.reduceNe,Int.reduceNeg,Int.reduceAdd,Int.reduceSub,Pr.row,ha,ha',wr0 ha.1 ha.2]
  exact fink rfl (Pr.row_lt (p.setA (iw .i64 (p.next + p.x.imm))) (d := dnil) (by first | rfl | simp [AV.lt]) 1) (by rw [← hpost]; exact ⟨rfl, rfl⟩)
theorem t16_c (p : Pr) (hx : p.x.ok) (hi : iw .i64 p.x.imm = p.x.imm) :
    ACalls Tryz.prog 162 [.ptr 0 0 0] [.rows 31 [p.row dnil]] (fun o H => o = .ret (.tuple []) ∧ H = [.rows 31 [({ p with tk := 1, tn := p.x.imm }).row dnil]]) := by
  refine ACalls.up ?_
  refine ACalls.intro (cs := []) (n := 11) Tryz.func162 rfl rfl rfl (by kernel_rfl) rfl ?_
  generalize hpost : (fun (o : Out) (H : Heap) => o = Out.ret (.tuple []) ∧ H = [.rows 31 [Pr.row ({ p with tk := 1, tn := p.x.imm }) dnil]]) = post
  have ha : 0 ≤ p.x.a ∧ p.x.a < 8 := ⟨hx.a0, by have := hx.a7; omega⟩
  have ha' : p.x.a.toNat + 1 ≤ 31 := by omega
  simp only [go_sem,Nat.reduceAdd,Nat.reduceSub,Nat.reduceMul,Nat.reduceEqDiff,Nat.reduceLeDiff,Nat.reduceLT,↓reduceIte,Int.reduceToNat,reduceCtorEq,Int.reduceLT,Int.reduceLE,Int.reduceGT,Int.reduceGE,Int.reduceEq,Int.reduceNe,Int.reduceNeg,Int.reduceAdd,Int.reduceSub,Pr.row,hi]
  exact fink rfl (Pr.row_lt ({ p with tk := 1, tn := p.x.imm }) (d := dnil) (by first | rfl | simp [AV.lt]) 1) (by rw [← hpost]; exact ⟨rfl, rfl⟩)
theorem t17_c (p : Pr) (hx : p.x.ok) (hs : p.s.ok) (hb : I64 (p.old.get p.x.b)) (hf : (p.s.flt (p.old.get p.x.b) 0 8 0).kind = 0) :
    ACalls Tryz.prog 163 [.ptr 0 0 0] [.rows 31 [p.row dnil]] (fun o H => o = .ret (.tuple []) ∧ H = [.rows 31 [(({ p with pos := p.old.get p.x.b : Pr }).setA (rdL (p.s.sub (p.old.get p.x.b) 8))).row (dby (stL 8 (p.old.get p.x.a)))]]) := by
  refine ACalls.up ?_
  refine ACalls.intro (cs := []) (n := 22) Tryz.func163 rfl rfl rfl (by kernel_rfl) rfl ?_
  generalize hpost : (fun (o : Out) (H : Heap) => o = Out.ret (.tuple []) ∧ H = [.rows 31 [Pr.row (({ p with pos := p.old.get p.x.b : Pr }).setA (rdL (p.s.sub (p.old.get p.x.b) 8))) (dby (stL 8 (p.old.get p.x.a)))]]) = post
  have ha : 0 ≤ p.x.a ∧ p.x.a < 8 := ⟨hx.a0, by have := hx.a7; omega⟩
  have ha' : p.x.a.toNat + 1 ≤ 31 := by omega
  simp only [go_sem,Nat.reduceAdd,Nat.reduceSub,Nat.reduceMul,Nat.reduceEqDiff,Nat.reduceLeDiff,Nat.reduceLT,↓reduceIte,Int.reduceToNat,reduceCtorEq,Int.reduceLT,Int.reduceLE,Int.reduceGT,Int.reduceGE,Int.reduceEq,Int.reduceNe,Int.reduceNeg,Int.reduceAdd,Int.reduceSub]
  refine rK_use (enters_of Tryz.func139 rfl (by decide)) (b_c p hx dnil rfl) ?_
  simp only [go_sem,Nat.reduceAdd,Nat.reduceSub,Nat.reduceMul,Nat.reduceEqDiff,Nat.reduceLeDiff,Nat.reduceLT,↓reduceIte,Int.reduceToNat,reduceCtorEq,Int.reduceLT,Int.reduceLE,Int.reduceGT,Int.reduceGE,Int.reduceEq,Int.reduceNe,Int.reduceNeg,Int.reduceAdd,Int.reduceSub]
  refine rK_use (enters_of Tryz.func138 rfl (by decide)) (a_c p hx dnil rfl) ?_
  simp only [go_sem,Nat.reduceAdd,Nat.reduceSub,Nat.reduceMul,Nat.reduceEqDiff,Nat.reduceLeDiff,Nat.reduceLT,↓reduceIte,Int.reduceToNat,reduceCtorEq,Int.reduceLT,Int.reduceLE,Int.reduceGT,Int.reduceGE,Int.reduceEq,Int.reduceNe,Int.reduceNeg,Int.reduceAdd,Int.reduceSub]
  refine rK_use (enters_of Tryz.func153 rfl (by decide)) (store_c p _ _ 8 (by decide)) ?_
  simp only [go_sem,Nat.reduceAdd,Nat.reduceSub,Nat.reduceMul,Nat.reduceEqDiff,Nat.reduceLeDiff,Nat.reduceLT,↓reduceIte,Int.reduceToNat,reduceCtorEq,Int.reduceLT,Int.reduceLE,Int.reduceGT,Int.reduceGE,Int.reduceEq,Int.reduceNe,Int.reduceNeg,Int.reduceAdd,Int.reduceSub]
  refine draw [.qu 0 2, .qu 0 2, .qu 0 2, .qu 0 2, .qu 0 2, .rd 0 2, .qu 0 1, .qu 0 0, .mn 0, .mn 1, .qu 0 2, .qu 0 2, .qu 0 2, .qu 2 2, .mn 2] (by kernel_rfl) (by kernel_rfl) ?_
  simp only [go_sem,Nat.reduceAdd,Nat.reduceSub,Nat.reduceMul,Nat.reduceEqDiff,Nat.reduceLeDiff,Nat.reduceLT,↓reduceIte,Int.reduceToNat,reduceCtorEq,Int.reduceLT,Int.reduceLE,Int.reduceGT,Int.reduceGE,Int.reduceEq,Int.reduceNe,Int.reduceNeg,Int.reduceAdd,Int.reduceSub,Pr.row]
  refine dM_call (enters_of Tryz.func139 rfl (by decide)) (b_c ({ p with pos := p.old.get p.x.b : Pr }) hx (dby (stL 8 (p.old.get p.x.a))) (by simp [AV.lt])) ?_
  simp only [go_sem,Nat.reduceAdd,Nat.reduceSub,Nat.reduceMul,Nat.reduceEqDiff,Nat.reduceLeDiff,Nat.reduceLT,↓reduceIte,Int.reduceToNat,reduceCtorEq,Int.reduceLT,Int.reduceLE,Int.reduceGT,Int.reduceGE,Int.reduceEq,Int.reduceNe,Int.reduceNeg,Int.reduceAdd,Int.reduceSub,Pr.row]
  refine dM_call (enters_of Tryz.func150 rfl (by decide)) (load_c ({ p with pos := p.old.get p.x.b : Pr }) hs (dby (stL 8 (p.old.get p.x.a))) (by simp [AV.lt]) _ hb 8 (by decide) (by decide) hf) ?_
  simp only [go_sem,Nat.reduceAdd,Nat.reduceSub,Nat.reduceMul,Nat.reduceEqDiff,Nat.reduceLeDiff,Nat.reduceLT,↓reduceIte,Int.reduceToNat,reduceCtorEq,Int.reduceLT,Int.reduceLE,Int.reduceGT,Int.reduceGE,Int.reduceEq,Int.reduceNe,Int.reduceNeg,Int.reduceAdd,Int.reduceSub,Pr.row,ha,ha',wr0 ha.1 ha.2]
  exact fink rfl (Pr.row_lt (({ p with pos := p.old.get p.x.b : Pr }).setA (rdL (p.s.sub (p.old.get p.x.b) 8))) (d := (dby (stL 8 (p.old.get p.x.a)))) (by first | rfl | simp [AV.lt]) 1) (by rw [← hpost]; exact ⟨rfl, rfl⟩)
theorem t18_c (p : Pr) :
    ACalls Tryz.prog 164 [.ptr 0 0 0] [.rows 31 [p.row dnil]] (fun o H => o = .pan (.iface 184 (.agg [iv 2, iv 0, iv 0, iv 0])) ∧ H = [.rows 31 [p.row dnil]]) := by
  refine ACalls.up ?_
  refine ACalls.intro (cs := []) (n := 5) Tryz.func164 rfl rfl rfl (by kernel_rfl) rfl ?_
  simp only [go_sem,Nat.reduceAdd,Nat.reduceSub,Nat.reduceMul,Nat.reduceEqDiff,Nat.reduceLeDiff,Nat.reduceLT,↓reduceIte,Int.reduceToNat,reduceCtorEq,Int.reduceLT,Int.reduceLE,Int.reduceGT,Int.reduceGE,Int.reduceEq,Int.reduceNe,Int.reduceNeg,Int.reduceAdd,Int.reduceSub]
  exact .done ⟨rfl, rfl⟩
end Go.Proofs.YtfiflailjbmlpaaGreatDoor
set_option maxRecDepth 100000
set_option linter.unusedVariables false
set_option linter.unusedSimpArgs false
namespace Go.Proofs.YtfiflailjbmlpaaGreatDoor
open Go.AM
structure Trp where
  kind : Int
  n : Int
  f : Flt
def Trp.cells (t : Trp) : List AV := [iv t.kind, iv t.n, iv t.f.kind, iv t.f.pos]
def trapV (t : Trp) : AV := .iface 184 (.agg t.cells)
def Acc.perm (a : Acc) : Int := if a.write = true then 2 else 1
def ffault (s : Sp) : List Acc → Flt
  | [] => ⟨0, 0⟩
  | a :: l => if (s.flt a.pos a.perm a.size.toNat 0).kind = 0 then ffault s l else s.flt a.pos a.perm a.size.toNat 0
theorem foot_size (x : Ins) (r : Rg) : ∀ a ∈ foot x r, a.size = 1 ∨ a.size = 8 := by
  unfold foot
  repeat' split
  all_goals simp
theorem ffault0 {s : Sp} : ∀ {l : List Acc}, (ffault s l).kind = 0 → ∀ a ∈ l, (s.flt a.pos a.perm a.size.toNat 0).kind = 0
  | [], _, a, h => by simp at h
  | b :: l, h, a, ha => by
    rw [ffault] at h
    split at h
    · rename_i h1
      rcases List.mem_cons.1 ha with rfl | ha
      · exact h1
      · exact ffault0 h a ha
    · rename_i h1; exact absurd h h1
theorem ffault_drop {s : Sp} {l : List Acc} {i : Nat} {a : Acc} (h : l[i]? = some a) : ffault s (l.drop i) = if (s.flt a.pos a.perm a.size.toNat 0).kind = 0 then ffault s (l.drop (i + 1)) else s.flt a.pos a.perm a.size.toNat 0 := by
  rw [drop_at h, ffault]
def permOut (f : Flt) (o : Out) : Prop := if f.kind = 0 then o = .ret (.tuple []) else o = .pan (trapV ⟨3, 0, f⟩)
theorem permit_c (p : Pr) (hx : p.x.ok) (hs : p.s.ok) (d : AV) (hd : d.lt 0 = true) :
    ACalls Tryz.prog 136 [.ptr 0 0 0] [.rows 31 [p.row d]] (fun o H => permOut (ffault p.s (foot p.x p.old)) o ∧ H = [.rows 31 [p.row d]]) := by
  refine ACalls.up ?_
  refine ACalls.intro (cs := []) (n := 43) Tryz.func136 rfl rfl rfl (by kernel_rfl) rfl ?_
  generalize hpost : (fun (o : Out) (H : Heap) => permOut (ffault p.s (foot p.x p.old)) o ∧ H = [.rows 31 [p.row d]]) = post
  simp only [go_sem,Nat.reduceAdd,Nat.reduceSub,Nat.reduceMul,Nat.reduceEqDiff,Nat.reduceLeDiff,Nat.reduceLT,↓reduceIte,Int.reduceToNat,reduceCtorEq,Int.reduceLT,Int.reduceLE,Int.reduceGT,Int.reduceGE,Int.reduceEq,Int.reduceNe,Int.reduceNeg,Int.reduceAdd,Int.reduceSub]
  refine draw [.qu 0 0, .qu 0 0, .qu 0 0, .qu 0 0, .qu 0 0, .qu 0 0, .qu 0 0, .qu 0 0, .qu 0 0, .qu 0 0, .qu 0 0] (by kernel_rfl) (by kernel_rfl) ?_
  simp only [go_sem,Nat.reduceAdd,Nat.reduceSub,Nat.reduceMul,Nat.reduceEqDiff,Nat.reduceLeDiff,Nat.reduceLT,↓reduceIte,Int.reduceToNat,reduceCtorEq,Int.reduceLT,Int.reduceLE,Int.reduceGT,Int.reduceGE,Int.reduceEq,Int.reduceNe,Int.reduceNeg,Int.reduceAdd,Int.reduceSub,Pr.row]
  refine y_call (enters_of Tryz.func143 rfl (by decide)) (fun _ => ACalls.pure_use (footprint_c p.x hx p.old) rfl (by simp [AV.lt])) ?_
  simp only [go_sem,Nat.reduceAdd,Nat.reduceSub,Nat.reduceMul,Nat.reduceEqDiff,Nat.reduceLeDiff,Nat.reduceLT,↓reduceIte,Int.reduceToNat,reduceCtorEq,Int.reduceLT,Int.reduceLE,Int.reduceGT,Int.reduceGE,Int.reduceEq,Int.reduceNe,Int.reduceNeg,Int.reduceAdd,Int.reduceSub,List.length_map]
  generalize hl : foot p.x p.old = l
  have hsz : ∀ a ∈ l, a.size = 1 ∨ a.size = 8 := hl ▸ foot_size p.x p.old
  have hll : l.length ≤ 2 := hl ▸ foot_len p.x p.old
  refine loop_fam (fun i : Nat => ((((Ch.nil.put 0 (.ptr 0 0 0)).put 14 (.view false 3 (l.map Acc.row))).put 15 (iv l.length)).put 16 (iv i))) (fun _ => [.rows 31 [p.row d]]) (fun i => l.length - i) (fun i => i ≤ l.length ∧ ffault p.s l = ffault p.s (l.drop i)) 0 (by kernel_rfl) ⟨Nat.zero_le _, rfl⟩
    (Wk.slots' rfl (by simp [wkS, Ch.get])) ?_
  rintro i ⟨hi, hf⟩ K hK
  simp only [go_sem,Nat.reduceAdd,Nat.reduceSub,Nat.reduceMul,Nat.reduceEqDiff,Nat.reduceLeDiff,Nat.reduceLT,↓reduceIte,Int.reduceToNat,reduceCtorEq,Int.reduceLT,Int.reduceLE,Int.reduceGT,Int.reduceGE,Int.reduceEq,Int.reduceNe,Int.reduceNeg,Int.reduceAdd,Int.reduceSub]
  refine condD_dec (fun hc => ?_) (fun hc => ?_)
  · obtain ⟨a, ha⟩ := at_lt (l := l) (i := i) (by omega)
    have hlt : (i : Int) < l.length := by omega
    have e1 : iw .i64 ((i : Int) + 1) = ((i + 1 : Nat) : Int) := by rw [iw64] <;> omega
    rw [ffault_drop ha] at hf
    have hn : ∃ n : Nat, a.size = n ∧ n ≤ 8 := by rcases hsz a (List.mem_of_getElem? ha) with h | h <;> exact ⟨a.size.toNat, by omega, by omega⟩
    obtain ⟨n, hn, hn8⟩ := hn
    rw [hn] at hf
    simp only [Int.toNat_natCast] at hf
    simp only [go_sem,Nat.reduceAdd,Nat.reduceSub,Nat.reduceMul,Nat.reduceEqDiff,Nat.reduceLeDiff,Nat.reduceLT,↓reduceIte,Int.reduceToNat,reduceCtorEq,Int.reduceLT,Int.reduceLE,Int.reduceGT,Int.reduceGE,Int.reduceEq,Int.reduceNe,Int.reduceNeg,Int.reduceAdd,Int.reduceSub,List.length_map,List.getElem?_map,ha,hlt,Int.natCast_nonneg,Acc.row]
    cases hw : a.write <;> simp only [Acc.perm, hw, Bool.false_eq_true, if_true, if_false] at hf
    all_goals
      simp only [go_sem,Nat.reduceAdd,Nat.reduceSub,Nat.reduceMul,Nat.reduceEqDiff,Nat.reduceLeDiff,Nat.reduceLT,↓reduceIte,Int.reduceToNat,reduceCtorEq,Int.reduceLT,Int.reduceLE,Int.reduceGT,Int.reduceGE,Int.reduceEq,Int.reduceNe,Int.reduceNeg,Int.reduceAdd,Int.reduceSub]
      refine draw [.qu 0 1, .qu 0 1, .qu 0 1, .rd 0 1, .qu 0 1, .rd 0 1, .qu 0 1, .rd 0 1, .qu 0 1, .qu 0 1, .qu 0 1, .qu 0 1, .qu 0 1, .mn 0, .mn 1] (by kernel_rfl) (by kernel_rfl) ?_
      simp only [go_sem,Nat.reduceAdd,Nat.reduceSub,Nat.reduceMul,Nat.reduceEqDiff,Nat.reduceLeDiff,Nat.reduceLT,↓reduceIte,Int.reduceToNat,reduceCtorEq,Int.reduceLT,Int.reduceLE,Int.reduceGT,Int.reduceGE,Int.reduceEq,Int.reduceNe,Int.reduceNeg,Int.reduceAdd,Int.reduceSub,Pr.row,hn]
      refine y_call (enters_of Tryz.func72 rfl (by decide)) (fun _ => ACalls.pure_use (access_c p.s hs a.pos _ n (by omega) (by simp)) rfl rfl) ?_
      simp only [go_sem,Nat.reduceAdd,Nat.reduceSub,Nat.reduceMul,Nat.reduceEqDiff,Nat.reduceLeDiff,Nat.reduceLT,↓reduceIte,Int.reduceToNat,reduceCtorEq,Int.reduceLT,Int.reduceLE,Int.reduceGT,Int.reduceGE,Int.reduceEq,Int.reduceNe,Int.reduceNeg,Int.reduceAdd,Int.reduceSub]
      refine y_call (enters_of Tryz.func71 rfl (by decide)) (fun _ => ACalls.pure_use (mustF_c _) rfl rfl) ?_
      simp only [go_sem,Nat.reduceAdd,Nat.reduceSub,Nat.reduceMul,Nat.reduceEqDiff,Nat.reduceLeDiff,Nat.reduceLT,↓reduceIte,Int.reduceToNat,reduceCtorEq,Int.reduceLT,Int.reduceLE,Int.reduceGT,Int.reduceGE,Int.reduceEq,Int.reduceNe,Int.reduceNeg,Int.reduceAdd,Int.reduceSub,Flt.cells]
      refine condD_dec (fun hk => ?_) (fun hk => ?_)
      · simp only [go_sem,Nat.reduceAdd,Nat.reduceSub,Nat.reduceMul,Nat.reduceEqDiff,Nat.reduceLeDiff,Nat.reduceLT,↓reduceIte,Int.reduceToNat,reduceCtorEq,Int.reduceLT,Int.reduceLE,Int.reduceGT,Int.reduceGE,Int.reduceEq,Int.reduceNe,Int.reduceNeg,Int.reduceAdd,Int.reduceSub]
        rw [if_neg hk] at hf
        exact finkp rfl (p.row_lt hd 1) (by rw [← hpost, hl, hf]; exact ⟨by rw [permOut, if_neg hk]; rfl, rfl⟩)
      · have hk' := Decidable.of_not_not hk
        rw [if_pos hk'] at hf
        simp only [go_sem,Nat.reduceAdd,Nat.reduceSub,Nat.reduceMul,Nat.reduceEqDiff,Nat.reduceLeDiff,Nat.reduceLT,↓reduceIte,Int.reduceToNat,reduceCtorEq,Int.reduceLT,Int.reduceLE,Int.reduceGT,Int.reduceGE,Int.reduceEq,Int.reduceNe,Int.reduceNeg,Int.reduceAdd,Int.reduceSub,e1]
        exact hK (i + 1) _ _ ⟨by omega, hf⟩ (by omega) (Wk.drop (m := 1) (by simp [wkS, Ch.get]) (Nat.le_refl _) (by simp) (by simp [chLt, AV.lt]) rfl (by intro b hb; simp at hb; subst hb; exact p.row_lt hd 1))
  · simp only [go_sem,Nat.reduceAdd,Nat.reduceSub,Nat.reduceMul,Nat.reduceEqDiff,Nat.reduceLeDiff,Nat.reduceLT,↓reduceIte,Int.reduceToNat,reduceCtorEq,Int.reduceLT,Int.reduceLE,Int.reduceGT,Int.reduceGE,Int.reduceEq,Int.reduceNe,Int.reduceNeg,Int.reduceAdd,Int.reduceSub]
    have : i = l.length := by omega
    subst this
    rw [List.drop_length, ffault] at hf
    exact fink rfl (p.row_lt hd 1) (by rw [← hpost, hl, hf]; exact ⟨by simp [permOut], rfl⟩)
theorem permit_ok (p : Pr) (hx : p.x.ok) (hs : p.s.ok) (d : AV) (hd : d.lt 0 = true) (h : (ffault p.s (foot p.x p.old)).kind = 0) :
    ACalls Tryz.prog 136 [.ptr 0 0 0] [.rows 31 [p.row d]] (fun o H => o = .ret (.tuple []) ∧ H = [.rows 31 [p.row d]]) := (permit_c p hx hs d hd).mono fun o H ⟨h1, h2⟩ => ⟨by rwa [permOut, if_pos h] at h1, h2⟩
theorem permit_no (p : Pr) (hx : p.x.ok) (hs : p.s.ok) (d : AV) (hd : d.lt 0 = true) (h : ¬ (ffault p.s (foot p.x p.old)).kind = 0) :
    ACalls Tryz.prog 136 [.ptr 0 0 0] [.rows 31 [p.row d]] (fun o H => o = .pan (trapV ⟨3, 0, ffault p.s (foot p.x p.old)⟩) ∧ H = [.rows 31 [p.row d]]) := (permit_c p hx hs d hd).mono fun o H ⟨h1, h2⟩ => ⟨by rwa [permOut, if_neg h] at h1, h2⟩
abbrev fnv (f : Nat) : AV := .func (.func f) [] []
def tabE : List (AV × AV) := [(iv 1, fnv 144), (iv 2, fnv 145), (iv 3, fnv 146), (iv 4, fnv 147), (iv 16, fnv 148), (iv 17, fnv 149), (iv 18, fnv 151), (iv 19, fnv 152), (iv 20, fnv 154), (iv 27, fnv 155), (iv 28, fnv 157), (iv 29, fnv 158), (iv 30, fnv 159), (iv 31, fnv 160), (iv 32, fnv 161), (iv 33, fnv 162), (iv 34, fnv 163), (iv 76, fnv 164)]
theorem table_c (b : Blk) (hb : b.lt 1) :
    ACalls Tryz.prog 141 [] [b] (fun o H => o = .ret (.map 1) ∧ H = [b, .amap tabE]) := by
  refine ACalls.up ?_
  refine ACalls.intro (cs := []) (n := 3) Tryz.func141 rfl rfl rfl (by kernel_rfl) rfl ?_
  simp only [go_sem,Nat.reduceAdd,Nat.reduceSub,Nat.reduceMul,Nat.reduceEqDiff,Nat.reduceLeDiff,Nat.reduceLT,↓reduceIte,Int.reduceToNat,reduceCtorEq,Int.reduceLT,Int.reduceLE,Int.reduceGT,Int.reduceGE,Int.reduceEq,Int.reduceNe,Int.reduceNeg,Int.reduceAdd,Int.reduceSub]
  exact .done ⟨rfl, rfl⟩
end Go.Proofs.YtfiflailjbmlpaaGreatDoor
set_option maxRecDepth 100000
set_option linter.unusedVariables false
set_option linter.unusedSimpArgs false
namespace Go.Proofs.YtfiflailjbmlpaaGreatDoor
open Go.AM
def Pr.start (x : Ins) (s : Sp) (r : Rg) : Pr := ⟨r, x, r, s, iw .i64 (r.pc + x.len), 0, 0, 0⟩
def Pr.toPc (p : Pr) (v : Int) : Pr := { p with rg := { p.rg with pc := v } }
def Pr.p1 (x : Ins) (s : Sp) (r : Rg) : Pr := (Pr.start x s r).toPc (iw .i64 (r.pc + x.len))
inductive Res where
  | tr (t : Trp) (p : Pr)
  | ok (p : Pr) (d : List UInt8)
def dav : List UInt8 → AV
  | [] => dnil
  | d => dby d
theorem dav_lt (d : List UInt8) : (dav d).lt 0 = true := by cases d <;> rfl
def tabR (p : Pr) : Res :=
  if p.x.op = 1 then .ok p []
  else if p.x.op = 2 then .ok (p.setA (p.old.get p.x.b)) []
  else if p.x.op = 3 ∨ p.x.op = 4 then .ok (p.setA p.x.imm) []
  else if p.x.op = 16 then .ok (p.setA (iw .i64 (p.old.get p.x.a + p.x.imm))) []
  else if p.x.op = 17 then .ok (p.setA (rdL (p.s.sub (iw .i64 (p.old.get p.x.b + p.x.imm)) 1))) []
  else if p.x.op = 18 then .ok (p.setA (rdL (p.s.sub (iw .i64 (p.old.get p.x.b + p.x.imm)) 8))) []
  else if p.x.op = 19 then .ok { p with pos := iw .i64 (p.old.get p.x.b + p.x.imm) } (stL 1 (p.old.get p.x.a))
  else if p.x.op = 20 then .ok { p with pos := iw .i64 (p.old.get p.x.b + p.x.imm) } (stL 8 (p.old.get p.x.a))
  else if p.x.op = 27 then .ok ({ p.set7 (iw .i64 (p.old.r7 - 8)) with pos := iw .i64 (p.old.r7 - 8) }.toPc (iw .i64 (p.next + p.x.imm))) (stL 8 p.next)
  else if p.x.op = 28 then .ok ({ p.set7 (iw .i64 (p.old.r7 - 8)) with pos := iw .i64 (p.old.r7 - 8) }.toPc (p.old.get p.x.a)) (stL 8 p.next)
  else if p.x.op = 29 then .ok ((p.set7 (iw .i64 (p.old.r7 + 8))).toPc (rdL (p.s.sub p.old.r7 8))) []
  else if p.x.op = 30 then .ok { p.set7 (iw .i64 (p.old.r7 - 8)) with pos := iw .i64 (p.old.r7 - 8) } (stL 8 (p.old.get p.x.a))
  else if p.x.op = 31 then .ok ((p.set7 (iw .i64 (p.old.r7 + 8))).setA (rdL (p.s.sub p.old.r7 8))) []
  else if p.x.op = 32 then .ok (p.setA (iw .i64 (p.next + p.x.imm))) []
  else if p.x.op = 33 then .ok { p with tk := 1, tn := p.x.imm } []
  else if p.x.op = 34 then .ok ({ p with pos := p.old.get p.x.b : Pr }.setA (rdL (p.s.sub (p.old.get p.x.b) 8))) (stL 8 (p.old.get p.x.a))
  else .tr ⟨2, 0, ⟨0, 0⟩⟩ p
def effect (x : Ins) (s : Sp) (r : Rg) : Res :=
  if ¬ (ffault s (foot x r)).kind = 0 then .tr ⟨3, 0, ffault s (foot x r)⟩ (Pr.start x s r)
  else if isAlu x.op = true then (match alu x.op (r.get x.a) (r.get x.b) with
    | none => .tr ⟨5, 0, ⟨0, 0⟩⟩ (Pr.p1 x s r)
    | some v => .ok ((Pr.p1 x s r).setA v) [])
  else if 21 ≤ x.op ∧ x.op ≤ 25 then .ok (if taken x r = true then (Pr.p1 x s r).toPc (iw .i64 ((Pr.p1 x s r).next + x.imm)) else Pr.p1 x s r) []
  else if x.op = 26 then .ok ((Pr.p1 x s r).toPc (r.get x.a)) []
  else tabR (Pr.p1 x s r)
def resOut (q : Res) (o : Out) (H : Heap) : Prop := match q with
  | .tr t p => o = .pan (trapV t) ∧ H = [.rows 31 [p.row dnil]]
  | .ok p d => o = .ret (.tuple []) ∧ H = [.rows 31 [p.row (dav d)]]
theorem flt_perm0 {s : Sp} {pos perm : Int} : ∀ (m i : Nat), (s.flt pos perm m i).kind = 0 → (s.flt pos 0 m i).kind = 0
  | 0, i, _ => rfl
  | m + 1, i, h => by
    rw [Sp.flt] at h ⊢
    split at h
    · rename_i h1
      have hx : s.has (iw .i64 (pos + i)) = true := by
        unfold Sp.bad1 at h1
        split at h1
        · assumption
        · cases h1
      rw [bad1_ok hx rfl (alw0 _), if_pos rfl]
      exact flt_perm0 m (i + 1) h
    · rename_i h1; exact absurd h h1
theorem row1_lt (p : Pr) {d : AV} (hd : d.lt 0 = true) : ∀ b ∈ [Blk.rows 31 [p.row d]], b.lt 1 := fun b hb => by
  simp at hb; subst hb; exact p.row_lt hd 1
theorem dd_lt (l : List UInt8) : (dby l).lt 0 = true := by simp [AV.lt]
theorem tfr {P : Program} {f : FuncId} {p q : Pr} {d d' : AV} {R : Heap} (hd : d.lt 0 = true) (hd' : d'.lt 0 = true) (hc : ACalls P f [.ptr 0 0 0] [.rows 31 [p.row d]] (fun o H => o = .ret (.tuple []) ∧ H = [.rows 31 [q.row d']])) :
    ACalls P f [.ptr 0 0 0] (.rows 31 [p.row d] :: R) (fun o H => o = .ret (.tuple []) ∧ H = .rows 31 [q.row d'] :: R) :=
  ACalls.frame (H0 := [.rows 31 [p.row d]]) (H0' := [.rows 31 [q.row d']]) (R := R) hc rfl rfl (row1_lt p hd) (row1_lt q hd') rfl
theorem execute_c (x : Ins) (hx : x.ok) (s : Sp) (hs : s.ok) (r : Rg) (hr : r.wf) :
    ACalls Tryz.prog 132 [.ptr 0 0 0] [.rows 31 [(Pr.start x s r).row dnil]] (resOut (effect x s r)) := by
  refine ACalls.up ?_
  refine ACalls.intro (cs := []) (n := 118) Tryz.func132 rfl rfl rfl (by kernel_rfl) rfl ?_
  generalize hpost : resOut (effect x s r) = post
  have finT : ∀ t p R, effect x s r = .tr t p → Up 1 post (.pan (trapV t)) (.rows 31 [p.row dnil] :: R) := fun t p R h => finkp rfl (p.row_lt rfl 1) (by rw [← hpost, h]; exact ⟨rfl, rfl⟩)
  have finO : ∀ p d R, effect x s r = .ok p d → Up 1 post (.ret (.tuple [])) (.rows 31 [p.row (dav d)] :: R) := fun p d R h => fink rfl (p.row_lt (dav_lt d) 1) (by rw [← hpost, h]; exact ⟨rfl, rfl⟩)
  have ha : 0 ≤ x.a ∧ x.a < 8 := ⟨hx.a0, by have := hx.a7; omega⟩
  have ha' : x.a.toNat + 1 ≤ 31 := by omega
  simp only [go_sem,Nat.reduceAdd,Nat.reduceSub,Nat.reduceMul,Nat.reduceEqDiff,Nat.reduceLeDiff,Nat.reduceLT,↓reduceIte,Int.reduceToNat,reduceCtorEq,Int.reduceLT,Int.reduceLE,Int.reduceGT,Int.reduceGE,Int.reduceEq,Int.reduceNe,Int.reduceNeg,Int.reduceAdd,Int.reduceSub]
  rcases Decidable.em ((ffault s (foot x r)).kind = 0) with hf | hf
  rotate_left
  · refine rK_pans (enters_of Tryz.func136 rfl (by decide)) (permit_no (Pr.start x s r) hx hs dnil rfl hf) ?_
    simp only [go_sem,Nat.reduceAdd,Nat.reduceSub,Nat.reduceMul,Nat.reduceEqDiff,Nat.reduceLeDiff,Nat.reduceLT,↓reduceIte,Int.reduceToNat,reduceCtorEq,Int.reduceLT,Int.reduceLE,Int.reduceGT,Int.reduceGE,Int.reduceEq,Int.reduceNe,Int.reduceNeg,Int.reduceAdd,Int.reduceSub]
    exact finT _ _ _ (by rw [effect, if_pos hf]; rfl)
  refine rK_use (enters_of Tryz.func136 rfl (by decide)) (permit_ok (Pr.start x s r) hx hs dnil rfl hf) ?_
  simp only [go_sem,Nat.reduceAdd,Nat.reduceSub,Nat.reduceMul,Nat.reduceEqDiff,Nat.reduceLeDiff,Nat.reduceLT,↓reduceIte,Int.reduceToNat,reduceCtorEq,Int.reduceLT,Int.reduceLE,Int.reduceGT,Int.reduceGE,Int.reduceEq,Int.reduceNe,Int.reduceNeg,Int.reduceAdd,Int.reduceSub,Pr.row,Pr.start]
  have e0 : effect x s r = effect x s r := rfl
  conv at e0 => rhs; rw [effect, if_neg (fun h => h hf)]
  rcases Decidable.em (isAlu x.op = true) with hal | hal
  · rw [if_pos hal] at e0
    have hal2 := hal
    simp only [isAlu, Bool.and_eq_true, decide_eq_true_eq] at hal2
    simp only [go_sem,Nat.reduceAdd,Nat.reduceSub,Nat.reduceMul,Nat.reduceEqDiff,Nat.reduceLeDiff,Nat.reduceLT,↓reduceIte,Int.reduceToNat,reduceCtorEq,Int.reduceLT,Int.reduceLE,Int.reduceGT,Int.reduceGE,Int.reduceEq,Int.reduceNe,Int.reduceNeg,Int.reduceAdd,Int.reduceSub,hal2,Pr.row]
    refine draw [.qu 0 2, .qu 0 2, .qu 0 2, .qu 0 2, .rd 0 2, .qu 0 0, .mn 0, .qu 0 1, .mn 1, .qu 2 2, .qu 2 2, .qu 2 2, .qu 2 2, .qu 2 2, .qu 2 2] (by kernel_rfl) (by kernel_rfl) ?_
    simp only [go_sem,Nat.reduceAdd,Nat.reduceSub,Nat.reduceMul,Nat.reduceEqDiff,Nat.reduceLeDiff,Nat.reduceLT,↓reduceIte,Int.reduceToNat,reduceCtorEq,Int.reduceLT,Int.reduceLE,Int.reduceGT,Int.reduceGE,Int.reduceEq,Int.reduceNe,Int.reduceNeg,Int.reduceAdd,Int.reduceSub]
    refine dM_call (enters_of Tryz.func138 rfl (by decide)) (a_c (Pr.p1 x s r) hx dnil rfl) ?_
    simp only [go_sem,Nat.reduceAdd,Nat.reduceSub,Nat.reduceMul,Nat.reduceEqDiff,Nat.reduceLeDiff,Nat.reduceLT,↓reduceIte,Int.reduceToNat,reduceCtorEq,Int.reduceLT,Int.reduceLE,Int.reduceGT,Int.reduceGE,Int.reduceEq,Int.reduceNe,Int.reduceNeg,Int.reduceAdd,Int.reduceSub,Pr.row,Pr.p1,Pr.toPc,Pr.start]
    refine dM_call (enters_of Tryz.func139 rfl (by decide)) (b_c (Pr.p1 x s r) hx dnil rfl) ?_
    simp only [go_sem,Nat.reduceAdd,Nat.reduceSub,Nat.reduceMul,Nat.reduceEqDiff,Nat.reduceLeDiff,Nat.reduceLT,↓reduceIte,Int.reduceToNat,reduceCtorEq,Int.reduceLT,Int.reduceLE,Int.reduceGT,Int.reduceGE,Int.reduceEq,Int.reduceNe,Int.reduceNeg,Int.reduceAdd,Int.reduceSub,Pr.row,Pr.p1,Pr.toPc,Pr.start]
    refine y_call (enters_of Tryz.func137 rfl (by decide)) (fun _ => ACalls.pure_use (alu_c x.op (r.get x.a) (r.get x.b) (hr.get _)) rfl rfl) ?_
    cases hv : alu x.op (r.get x.a) (r.get x.b) with
    | none =>
      rw [hv] at e0
      simp only [go_sem,Nat.reduceAdd,Nat.reduceSub,Nat.reduceMul,Nat.reduceEqDiff,Nat.reduceLeDiff,Nat.reduceLT,↓reduceIte,Int.reduceToNat,reduceCtorEq,Int.reduceLT,Int.reduceLE,Int.reduceGT,Int.reduceGE,Int.reduceEq,Int.reduceNe,Int.reduceNeg,Int.reduceAdd,Int.reduceSub,aluV,Option.isSome_none,Option.getD_none]
      exact finT ⟨5, 0, ⟨0, 0⟩⟩ _ _ e0
    | some v =>
      rw [hv] at e0
      simp only [go_sem,Nat.reduceAdd,Nat.reduceSub,Nat.reduceMul,Nat.reduceEqDiff,Nat.reduceLeDiff,Nat.reduceLT,↓reduceIte,Int.reduceToNat,reduceCtorEq,Int.reduceLT,Int.reduceLE,Int.reduceGT,Int.reduceGE,Int.reduceEq,Int.reduceNe,Int.reduceNeg,Int.reduceAdd,Int.reduceSub,aluV,Option.isSome_some,Option.getD_some]
      refine draw [.qu 0 0, .qu 0 0, .qu 0 0, .qu 0 0, .qu 0 0, .qu 0 0, .qu 0 0, .qu 0 0, .qu 0 0, .qu 0 0, .qu 0 0, .mn 0] (by kernel_rfl) (by kernel_rfl) ?_
      simp only [go_sem,Nat.reduceAdd,Nat.reduceSub,Nat.reduceMul,Nat.reduceEqDiff,Nat.reduceLeDiff,Nat.reduceLT,↓reduceIte,Int.reduceToNat,reduceCtorEq,Int.reduceLT,Int.reduceLE,Int.reduceGT,Int.reduceGE,Int.reduceEq,Int.reduceNe,Int.reduceNeg,Int.reduceAdd,Int.reduceSub,Pr.row,Pr.p1,Pr.toPc,Pr.start,ha,ha',wr0 ha.1 ha.2]
      exact finO _ [] _ e0
  rw [if_neg hal] at e0
  have hal2 : ¬ (5 ≤ x.op ∧ x.op ≤ 15) := by simpa [isAlu] using hal
  rcases Decidable.em (21 ≤ x.op ∧ x.op ≤ 25) with hj | hj
  · rw [if_pos hj] at e0
    have h5 : 5 ≤ x.op := by omega
    have h15 : ¬ x.op ≤ 15 := by omega
    simp only [go_sem,Nat.reduceAdd,Nat.reduceSub,Nat.reduceMul,Nat.reduceEqDiff,Nat.reduceLeDiff,Nat.reduceLT,↓reduceIte,Int.reduceToNat,reduceCtorEq,Int.reduceLT,Int.reduceLE,Int.reduceGT,Int.reduceGE,Int.reduceEq,Int.reduceNe,Int.reduceNeg,Int.reduceAdd,Int.reduceSub,h5,h15,hj,Pr.row]
    refine draw [.qu 0 0, .qu 0 0, .qu 0 0, .qu 0 0, .qu 0 0, .qu 0 0, .qu 0 0, .qu 0 0, .qu 0 0] (by kernel_rfl) (by kernel_rfl) ?_
    simp only [go_sem,Nat.reduceAdd,Nat.reduceSub,Nat.reduceMul,Nat.reduceEqDiff,Nat.reduceLeDiff,Nat.reduceLT,↓reduceIte,Int.reduceToNat,reduceCtorEq,Int.reduceLT,Int.reduceLE,Int.reduceGT,Int.reduceGE,Int.reduceEq,Int.reduceNe,Int.reduceNeg,Int.reduceAdd,Int.reduceSub,Pr.row,Pr.p1,Pr.toPc,Pr.start]
    refine y_call (enters_of Tryz.func140 rfl (by decide)) (fun _ => ACalls.pure_use (taken_c x hx r) rfl rfl) ?_
    cases ht : taken x r
    · rw [ht] at e0
      simp only [go_sem,Nat.reduceAdd,Nat.reduceSub,Nat.reduceMul,Nat.reduceEqDiff,Nat.reduceLeDiff,Nat.reduceLT,↓reduceIte,Int.reduceToNat,reduceCtorEq,Int.reduceLT,Int.reduceLE,Int.reduceGT,Int.reduceGE,Int.reduceEq,Int.reduceNe,Int.reduceNeg,Int.reduceAdd,Int.reduceSub]
      exact finO _ [] _ e0
    · rw [ht] at e0
      simp only [go_sem,Nat.reduceAdd,Nat.reduceSub,Nat.reduceMul,Nat.reduceEqDiff,Nat.reduceLeDiff,Nat.reduceLT,↓reduceIte,Int.reduceToNat,reduceCtorEq,Int.reduceLT,Int.reduceLE,Int.reduceGT,Int.reduceGE,Int.reduceEq,Int.reduceNe,Int.reduceNeg,Int.reduceAdd,Int.reduceSub]
      refine draw [.qu 0 0, .qu 0 0, .qu 0 0, .qu 0 0, .qu 0 0, .qu 0 0, .qu 0 0, .qu 0 0, .qu 0 0, .qu 0 0, .qu 0 0, .qu 0 0, .qu 0 0, .qu 0 0, .mn 0] (by kernel_rfl) (by kernel_rfl) ?_
      simp only [go_sem,Nat.reduceAdd,Nat.reduceSub,Nat.reduceMul,Nat.reduceEqDiff,Nat.reduceLeDiff,Nat.reduceLT,↓reduceIte,Int.reduceToNat,reduceCtorEq,Int.reduceLT,Int.reduceLE,Int.reduceGT,Int.reduceGE,Int.reduceEq,Int.reduceNe,Int.reduceNeg,Int.reduceAdd,Int.reduceSub,Pr.row,Pr.p1,Pr.toPc,Pr.start]
      exact finO _ [] _ e0
  rw [if_neg hj] at e0
  obtain ⟨xop, xa, xb, xi⟩ := x
  simp only at hal2 hj e0
  rcases Decidable.em (xop = 26) with h26 | h26
  · rw [if_pos h26] at e0
    subst h26
    simp only [go_sem,Nat.reduceAdd,Nat.reduceSub,Nat.reduceMul,Nat.reduceEqDiff,Nat.reduceLeDiff,Nat.reduceLT,↓reduceIte,Int.reduceToNat,reduceCtorEq,Int.reduceLT,Int.reduceLE,Int.reduceGT,Int.reduceGE,Int.reduceEq,Int.reduceNe,Int.reduceNeg,Int.reduceAdd,Int.reduceSub,Pr.row]
    refine rK_use (enters_of Tryz.func138 rfl (by decide)) (a_c (Pr.p1 ⟨26, xa, xb, xi⟩ s r) hx dnil rfl) ?_
    simp only [go_sem,Nat.reduceAdd,Nat.reduceSub,Nat.reduceMul,Nat.reduceEqDiff,Nat.reduceLeDiff,Nat.reduceLT,↓reduceIte,Int.reduceToNat,reduceCtorEq,Int.reduceLT,Int.reduceLE,Int.reduceGT,Int.reduceGE,Int.reduceEq,Int.reduceNe,Int.reduceNeg,Int.reduceAdd,Int.reduceSub,Pr.row,Pr.p1,Pr.toPc,Pr.start]
    exact finO _ [] _ e0
  rw [if_neg h26] at e0
  have h7 : I64 r.r7 := hr.reg _ (by simp [Rg.list])
  have hcs : xop = 1 ∨ xop = 2 ∨ xop = 3 ∨ xop = 4 ∨ xop = 16 ∨ xop = 17 ∨ xop = 18 ∨ xop = 19 ∨ xop = 20 ∨ xop = 27 ∨ xop = 28 ∨ xop = 29 ∨ xop = 30 ∨ xop = 31 ∨ xop = 32 ∨ xop = 33 ∨ xop = 34 ∨ xop = 76 := by
    rcases opcases hx.op with h | ⟨k, h1, h2, h3⟩
    · simp only at h; omega
    · simp only at h3; omega
  rcases hcs with h | h | h | h | h | h | h | h | h | h | h | h | h | h | h | h | h | h
  · subst h
    simp only [go_sem,Nat.reduceAdd,Nat.reduceSub,Nat.reduceMul,Nat.reduceEqDiff,Nat.reduceLeDiff,Nat.reduceLT,↓reduceIte,Int.reduceToNat,reduceCtorEq,Int.reduceLT,Int.reduceLE,Int.reduceGT,Int.reduceGE,Int.reduceEq,Int.reduceNe,Int.reduceNeg,Int.reduceAdd,Int.reduceSub,Pr.row]
    refine drawLL [.mn 0, .qu 0 1, .qu 0 1, .qu 0 1, .qu 0 1, .rd 0 1, .qu 1 1, .qu 0 1] 8 rfl (by kernel_rfl) (by kernel_rfl) (by kernel_rfl) (by kernel_rfl) ?_; simp only [List.take_succ_cons, List.take_zero]
    simp only [go_sem,Nat.reduceAdd,Nat.reduceSub,Nat.reduceMul,Nat.reduceEqDiff,Nat.reduceLeDiff,Nat.reduceLT,↓reduceIte,Int.reduceToNat,reduceCtorEq,Int.reduceLT,Int.reduceLE,Int.reduceGT,Int.reduceGE,Int.reduceEq,Int.reduceNe,Int.reduceNeg,Int.reduceAdd,Int.reduceSub]
    refine dM_call (enters_of Tryz.func141 rfl (by decide)) (table_c (.rows 31 [(Pr.p1 ⟨1, xa, xb, xi⟩ s r).row dnil]) (Pr.row_lt _ rfl 1)) ?_
    simp only [go_sem,Nat.reduceAdd,Nat.reduceSub,Nat.reduceMul,Nat.reduceEqDiff,Nat.reduceLeDiff,Nat.reduceLT,↓reduceIte,Int.reduceToNat,reduceCtorEq,Int.reduceLT,Int.reduceLE,Int.reduceGT,Int.reduceGE,Int.reduceEq,Int.reduceNe,Int.reduceNeg,Int.reduceAdd,Int.reduceSub,Pr.row,Pr.p1,Pr.toPc,Pr.start,tabE]
    refine rK_use (enters_of Tryz.func144 rfl (by decide)) (tfr (R := [.amap tabE]) rfl (by first | exact dd_lt _ | rfl) (t1_c (Pr.p1 ⟨1, xa, xb, xi⟩ s r) hx)) ?_
    simp only [go_sem,Nat.reduceAdd,Nat.reduceSub,Nat.reduceMul,Nat.reduceEqDiff,Nat.reduceLeDiff,Nat.reduceLT,↓reduceIte,Int.reduceToNat,reduceCtorEq,Int.reduceLT,Int.reduceLE,Int.reduceGT,Int.reduceGE,Int.reduceEq,Int.reduceNe,Int.reduceNeg,Int.reduceAdd,Int.reduceSub]
    exact finO _ _ _ (by rw [e0, tabR]; rfl)
  · subst h
    simp only [go_sem,Nat.reduceAdd,Nat.reduceSub,Nat.reduceMul,Nat.reduceEqDiff,Nat.reduceLeDiff,Nat.reduceLT,↓reduceIte,Int.reduceToNat,reduceCtorEq,Int.reduceLT,Int.reduceLE,Int.reduceGT,Int.reduceGE,Int.reduceEq,Int.reduceNe,Int.reduceNeg,Int.reduceAdd,Int.reduceSub,Pr.row]
    refine drawLL [.mn 0, .qu 0 1, .qu 0 1, .qu 0 1, .qu 0 1, .rd 0 1, .qu 1 1, .qu 0 1] 8 rfl (by kernel_rfl) (by kernel_rfl) (by kernel_rfl) (by kernel_rfl) ?_; simp only [List.take_succ_cons, List.take_zero]
    simp only [go_sem,Nat.reduceAdd,Nat.reduceSub,Nat.reduceMul,Nat.reduceEqDiff,Nat.reduceLeDiff,Nat.reduceLT,↓reduceIte,Int.reduceToNat,reduceCtorEq,Int.reduceLT,Int.reduceLE,Int.reduceGT,Int.reduceGE,Int.reduceEq,Int.reduceNe,Int.reduceNeg,Int.reduceAdd,Int.reduceSub]
    refine dM_call (enters_of Tryz.func141 rfl (by decide)) (table_c (.rows 31 [(Pr.p1 ⟨2, xa, xb, xi⟩ s r).row dnil]) (Pr.row_lt _ rfl 1)) ?_
    simp only [go_sem,Nat.reduceAdd,Nat.reduceSub,Nat.reduceMul,Nat.reduceEqDiff,Nat.reduceLeDiff,Nat.reduceLT,↓reduceIte,Int.reduceToNat,reduceCtorEq,Int.reduceLT,Int.reduceLE,Int.reduceGT,Int.reduceGE,Int.reduceEq,Int.reduceNe,Int.reduceNeg,Int.reduceAdd,Int.reduceSub,Pr.row,Pr.p1,Pr.toPc,Pr.start,tabE]
    refine rK_use (enters_of Tryz.func145 rfl (by decide)) (tfr (R := [.amap tabE]) rfl (by first | exact dd_lt _ | rfl) (t2_c (Pr.p1 ⟨2, xa, xb, xi⟩ s r) hx)) ?_
    simp only [go_sem,Nat.reduceAdd,Nat.reduceSub,Nat.reduceMul,Nat.reduceEqDiff,Nat.reduceLeDiff,Nat.reduceLT,↓reduceIte,Int.reduceToNat,reduceCtorEq,Int.reduceLT,Int.reduceLE,Int.reduceGT,Int.reduceGE,Int.reduceEq,Int.reduceNe,Int.reduceNeg,Int.reduceAdd,Int.reduceSub]
    exact finO _ _ _ (by rw [e0, tabR]; rfl)
  · subst h
    simp only [go_sem,Nat.reduceAdd,Nat.reduceSub,Nat.reduceMul,Nat.reduceEqDiff,Nat.reduceLeDiff,Nat.reduceLT,↓reduceIte,Int.reduceToNat,reduceCtorEq,Int.reduceLT,Int.reduceLE,Int.reduceGT,Int.reduceGE,Int.reduceEq,Int.reduceNe,Int.reduceNeg,Int.reduceAdd,Int.reduceSub,Pr.row]
    refine drawLL [.mn 0, .qu 0 1, .qu 0 1, .qu 0 1, .qu 0 1, .rd 0 1, .qu 1 1, .qu 0 1] 8 rfl (by kernel_rfl) (by kernel_rfl) (by kernel_rfl) (by kernel_rfl) ?_; simp only [List.take_succ_cons, List.take_zero]
    simp only [go_sem,Nat.reduceAdd,Nat.reduceSub,Nat.reduceMul,Nat.reduceEqDiff,Nat.reduceLeDiff,Nat.reduceLT,↓reduceIte,Int.reduceToNat,reduceCtorEq,Int.reduceLT,Int.reduceLE,Int.reduceGT,Int.reduceGE,Int.reduceEq,Int.reduceNe,Int.reduceNeg,Int.reduceAdd,Int.reduceSub]
    refine dM_call (enters_of Tryz.func141 rfl (by decide)) (table_c (.rows 31 [(Pr.p1 ⟨3, xa, xb, xi⟩ s r).row dnil]) (Pr.row_lt _ rfl 1)) ?_
    simp only [go_sem,Nat.reduceAdd,Nat.reduceSub,Nat.reduceMul,Nat.reduceEqDiff,Nat.reduceLeDiff,Nat.reduceLT,↓reduceIte,Int.reduceToNat,reduceCtorEq,Int.reduceLT,Int.reduceLE,Int.reduceGT,Int.reduceGE,Int.reduceEq,Int.reduceNe,Int.reduceNeg,Int.reduceAdd,Int.reduceSub,Pr.row,Pr.p1,Pr.toPc,Pr.start,tabE]
    refine rK_use (enters_of Tryz.func146 rfl (by decide)) (tfr (R := [.amap tabE]) rfl (by first | exact dd_lt _ | rfl) (t3_c (Pr.p1 ⟨3, xa, xb, xi⟩ s r) hx)) ?_
    simp only [go_sem,Nat.reduceAdd,Nat.reduceSub,Nat.reduceMul,Nat.reduceEqDiff,Nat.reduceLeDiff,Nat.reduceLT,↓reduceIte,Int.reduceToNat,reduceCtorEq,Int.reduceLT,Int.reduceLE,Int.reduceGT,Int.reduceGE,Int.reduceEq,Int.reduceNe,Int.reduceNeg,Int.reduceAdd,Int.reduceSub]
    exact finO _ _ _ (by rw [e0, tabR]; rfl)
  · subst h
    simp only [go_sem,Nat.reduceAdd,Nat.reduceSub,Nat.reduceMul,Nat.reduceEqDiff,Nat.reduceLeDiff,Nat.reduceLT,↓reduceIte,Int.reduceToNat,reduceCtorEq,Int.reduceLT,Int.reduceLE,Int.reduceGT,Int.reduceGE,Int.reduceEq,Int.reduceNe,Int.reduceNeg,Int.reduceAdd,Int.reduceSub,Pr.row]
    refine drawLL [.mn 0, .qu 0 1, .qu 0 1, .qu 0 1, .qu 0 1, .rd 0 1, .qu 1 1, .qu 0 1] 8 rfl (by kernel_rfl) (by kernel_rfl) (by kernel_rfl) (by kernel_rfl) ?_; simp only [List.take_succ_cons, List.take_zero]
    simp only [go_sem,Nat.reduceAdd,Nat.reduceSub,Nat.reduceMul,Nat.reduceEqDiff,Nat.reduceLeDiff,Nat.reduceLT,↓reduceIte,Int.reduceToNat,reduceCtorEq,Int.reduceLT,Int.reduceLE,Int.reduceGT,Int.reduceGE,Int.reduceEq,Int.reduceNe,Int.reduceNeg,Int.reduceAdd,Int.reduceSub]
    refine dM_call (enters_of Tryz.func141 rfl (by decide)) (table_c (.rows 31 [(Pr.p1 ⟨4, xa, xb, xi⟩ s r).row dnil]) (Pr.row_lt _ rfl 1)) ?_
    simp only [go_sem,Nat.reduceAdd,Nat.reduceSub,Nat.reduceMul,Nat.reduceEqDiff,Nat.reduceLeDiff,Nat.reduceLT,↓reduceIte,Int.reduceToNat,reduceCtorEq,Int.reduceLT,Int.reduceLE,Int.reduceGT,Int.reduceGE,Int.reduceEq,Int.reduceNe,Int.reduceNeg,Int.reduceAdd,Int.reduceSub,Pr.row,Pr.p1,Pr.toPc,Pr.start,tabE]
    refine rK_use (enters_of Tryz.func147 rfl (by decide)) (tfr (R := [.amap tabE]) rfl (by first | exact dd_lt _ | rfl) (t4_c (Pr.p1 ⟨4, xa, xb, xi⟩ s r) hx)) ?_
    simp only [go_sem,Nat.reduceAdd,Nat.reduceSub,Nat.reduceMul,Nat.reduceEqDiff,Nat.reduceLeDiff,Nat.reduceLT,↓reduceIte,Int.reduceToNat,reduceCtorEq,Int.reduceLT,Int.reduceLE,Int.reduceGT,Int.reduceGE,Int.reduceEq,Int.reduceNe,Int.reduceNeg,Int.reduceAdd,Int.reduceSub]
    exact finO _ _ _ (by rw [e0, tabR]; rfl)
  · subst h
    simp only [go_sem,Nat.reduceAdd,Nat.reduceSub,Nat.reduceMul,Nat.reduceEqDiff,Nat.reduceLeDiff,Nat.reduceLT,↓reduceIte,Int.reduceToNat,reduceCtorEq,Int.reduceLT,Int.reduceLE,Int.reduceGT,Int.reduceGE,Int.reduceEq,Int.reduceNe,Int.reduceNeg,Int.reduceAdd,Int.reduceSub,Pr.row]
    refine drawLL [.mn 0, .qu 0 1, .qu 0 1, .qu 0 1, .qu 0 1, .rd 0 1, .qu 1 1, .qu 0 1] 8 rfl (by kernel_rfl) (by kernel_rfl) (by kernel_rfl) (by kernel_rfl) ?_; simp only [List.take_succ_cons, List.take_zero]
    simp only [go_sem,Nat.reduceAdd,Nat.reduceSub,Nat.reduceMul,Nat.reduceEqDiff,Nat.reduceLeDiff,Nat.reduceLT,↓reduceIte,Int.reduceToNat,reduceCtorEq,Int.reduceLT,Int.reduceLE,Int.reduceGT,Int.reduceGE,Int.reduceEq,Int.reduceNe,Int.reduceNeg,Int.reduceAdd,Int.reduceSub]
    refine dM_call (enters_of Tryz.func141 rfl (by decide)) (table_c (.rows 31 [(Pr.p1 ⟨16, xa, xb, xi⟩ s r).row dnil]) (Pr.row_lt _ rfl 1)) ?_
    simp only [go_sem,Nat.reduceAdd,Nat.reduceSub,Nat.reduceMul,Nat.reduceEqDiff,Nat.reduceLeDiff,Nat.reduceLT,↓reduceIte,Int.reduceToNat,reduceCtorEq,Int.reduceLT,Int.reduceLE,Int.reduceGT,Int.reduceGE,Int.reduceEq,Int.reduceNe,Int.reduceNeg,Int.reduceAdd,Int.reduceSub,Pr.row,Pr.p1,Pr.toPc,Pr.start,tabE]
    refine rK_use (enters_of Tryz.func148 rfl (by decide)) (tfr (R := [.amap tabE]) rfl (by first | exact dd_lt _ | rfl) (t5_c (Pr.p1 ⟨16, xa, xb, xi⟩ s r) hx)) ?_
    simp only [go_sem,Nat.reduceAdd,Nat.reduceSub,Nat.reduceMul,Nat.reduceEqDiff,Nat.reduceLeDiff,Nat.reduceLT,↓reduceIte,Int.reduceToNat,reduceCtorEq,Int.reduceLT,Int.reduceLE,Int.reduceGT,Int.reduceGE,Int.reduceEq,Int.reduceNe,Int.reduceNeg,Int.reduceAdd,Int.reduceSub]
    exact finO _ _ _ (by rw [e0, tabR]; rfl)
  · subst h
    have hq := flt_perm0 _ _ (ffault0 hf ⟨iw .i64 (r.get xb + xi), 1, false⟩ (by simp [foot]))
    simp only [go_sem,Nat.reduceAdd,Nat.reduceSub,Nat.reduceMul,Nat.reduceEqDiff,Nat.reduceLeDiff,Nat.reduceLT,↓reduceIte,Int.reduceToNat,reduceCtorEq,Int.reduceLT,Int.reduceLE,Int.reduceGT,Int.reduceGE,Int.reduceEq,Int.reduceNe,Int.reduceNeg,Int.reduceAdd,Int.reduceSub,Pr.row]
    refine drawLL [.mn 0, .qu 0 1, .qu 0 1, .qu 0 1, .qu 0 1, .rd 0 1, .qu 1 1, .qu 0 1] 8 rfl (by kernel_rfl) (by kernel_rfl) (by kernel_rfl) (by kernel_rfl) ?_; simp only [List.take_succ_cons, List.take_zero]
    simp only [go_sem,Nat.reduceAdd,Nat.reduceSub,Nat.reduceMul,Nat.reduceEqDiff,Nat.reduceLeDiff,Nat.reduceLT,↓reduceIte,Int.reduceToNat,reduceCtorEq,Int.reduceLT,Int.reduceLE,Int.reduceGT,Int.reduceGE,Int.reduceEq,Int.reduceNe,Int.reduceNeg,Int.reduceAdd,Int.reduceSub]
    refine dM_call (enters_of Tryz.func141 rfl (by decide)) (table_c (.rows 31 [(Pr.p1 ⟨17, xa, xb, xi⟩ s r).row dnil]) (Pr.row_lt _ rfl 1)) ?_
    simp only [go_sem,Nat.reduceAdd,Nat.reduceSub,Nat.reduceMul,Nat.reduceEqDiff,Nat.reduceLeDiff,Nat.reduceLT,↓reduceIte,Int.reduceToNat,reduceCtorEq,Int.reduceLT,Int.reduceLE,Int.reduceGT,Int.reduceGE,Int.reduceEq,Int.reduceNe,Int.reduceNeg,Int.reduceAdd,Int.reduceSub,Pr.row,Pr.p1,Pr.toPc,Pr.start,tabE]
    refine rK_use (enters_of Tryz.func149 rfl (by decide)) (tfr (R := [.amap tabE]) rfl (by first | exact dd_lt _ | rfl) (t6_c (Pr.p1 ⟨17, xa, xb, xi⟩ s r) hx hs hq)) ?_
    simp only [go_sem,Nat.reduceAdd,Nat.reduceSub,Nat.reduceMul,Nat.reduceEqDiff,Nat.reduceLeDiff,Nat.reduceLT,↓reduceIte,Int.reduceToNat,reduceCtorEq,Int.reduceLT,Int.reduceLE,Int.reduceGT,Int.reduceGE,Int.reduceEq,Int.reduceNe,Int.reduceNeg,Int.reduceAdd,Int.reduceSub]
    exact finO _ _ _ (by rw [e0, tabR]; rfl)
  · subst h
    have hq := flt_perm0 _ _ (ffault0 hf ⟨iw .i64 (r.get xb + xi), 8, false⟩ (by simp [foot]))
    simp only [go_sem,Nat.reduceAdd,Nat.reduceSub,Nat.reduceMul,Nat.reduceEqDiff,Nat.reduceLeDiff,Nat.reduceLT,↓reduceIte,Int.reduceToNat,reduceCtorEq,Int.reduceLT,Int.reduceLE,Int.reduceGT,Int.reduceGE,Int.reduceEq,Int.reduceNe,Int.reduceNeg,Int.reduceAdd,Int.reduceSub,Pr.row]
    refine drawLL [.mn 0, .qu 0 1, .qu 0 1, .qu 0 1, .qu 0 1, .rd 0 1, .qu 1 1, .qu 0 1] 8 rfl (by kernel_rfl) (by kernel_rfl) (by kernel_rfl) (by kernel_rfl) ?_; simp only [List.take_succ_cons, List.take_zero]
    simp only [go_sem,Nat.reduceAdd,Nat.reduceSub,Nat.reduceMul,Nat.reduceEqDiff,Nat.reduceLeDiff,Nat.reduceLT,↓reduceIte,Int.reduceToNat,reduceCtorEq,Int.reduceLT,Int.reduceLE,Int.reduceGT,Int.reduceGE,Int.reduceEq,Int.reduceNe,Int.reduceNeg,Int.reduceAdd,Int.reduceSub]
    refine dM_call (enters_of Tryz.func141 rfl (by decide)) (table_c (.rows 31 [(Pr.p1 ⟨18, xa, xb, xi⟩ s r).row dnil]) (Pr.row_lt _ rfl 1)) ?_
    simp only [go_sem,Nat.reduceAdd,Nat.reduceSub,Nat.reduceMul,Nat.reduceEqDiff,Nat.reduceLeDiff,Nat.reduceLT,↓reduceIte,Int.reduceToNat,reduceCtorEq,Int.reduceLT,Int.reduceLE,Int.reduceGT,Int.reduceGE,Int.reduceEq,Int.reduceNe,Int.reduceNeg,Int.reduceAdd,Int.reduceSub,Pr.row,Pr.p1,Pr.toPc,Pr.start,tabE]
    refine rK_use (enters_of Tryz.func151 rfl (by decide)) (tfr (R := [.amap tabE]) rfl (by first | exact dd_lt _ | rfl) (t7_c (Pr.p1 ⟨18, xa, xb, xi⟩ s r) hx hs hq)) ?_
    simp only [go_sem,Nat.reduceAdd,Nat.reduceSub,Nat.reduceMul,Nat.reduceEqDiff,Nat.reduceLeDiff,Nat.reduceLT,↓reduceIte,Int.reduceToNat,reduceCtorEq,Int.reduceLT,Int.reduceLE,Int.reduceGT,Int.reduceGE,Int.reduceEq,Int.reduceNe,Int.reduceNeg,Int.reduceAdd,Int.reduceSub]
    exact finO _ _ _ (by rw [e0, tabR]; rfl)
  · subst h
    simp only [go_sem,Nat.reduceAdd,Nat.reduceSub,Nat.reduceMul,Nat.reduceEqDiff,Nat.reduceLeDiff,Nat.reduceLT,↓reduceIte,Int.reduceToNat,reduceCtorEq,Int.reduceLT,Int.reduceLE,Int.reduceGT,Int.reduceGE,Int.reduceEq,Int.reduceNe,Int.reduceNeg,Int.reduceAdd,Int.reduceSub,Pr.row]
    refine drawLL [.mn 0, .qu 0 1, .qu 0 1, .qu 0 1, .qu 0 1, .rd 0 1, .qu 1 1, .qu 0 1] 8 rfl (by kernel_rfl) (by kernel_rfl) (by kernel_rfl) (by kernel_rfl) ?_; simp only [List.take_succ_cons, List.take_zero]
    simp only [go_sem,Nat.reduceAdd,Nat.reduceSub,Nat.reduceMul,Nat.reduceEqDiff,Nat.reduceLeDiff,Nat.reduceLT,↓reduceIte,Int.reduceToNat,reduceCtorEq,Int.reduceLT,Int.reduceLE,Int.reduceGT,Int.reduceGE,Int.reduceEq,Int.reduceNe,Int.reduceNeg,Int.reduceAdd,Int.reduceSub]
    refine dM_call (enters_of Tryz.func141 rfl (by decide)) (table_c (.rows 31 [(Pr.p1 ⟨19, xa, xb, xi⟩ s r).row dnil]) (Pr.row_lt _ rfl 1)) ?_
    simp only [go_sem,Nat.reduceAdd,Nat.reduceSub,Nat.reduceMul,Nat.reduceEqDiff,Nat.reduceLeDiff,Nat.reduceLT,↓reduceIte,Int.reduceToNat,reduceCtorEq,Int.reduceLT,Int.reduceLE,Int.reduceGT,Int.reduceGE,Int.reduceEq,Int.reduceNe,Int.reduceNeg,Int.reduceAdd,Int.reduceSub,Pr.row,Pr.p1,Pr.toPc,Pr.start,tabE]
    refine rK_use (enters_of Tryz.func152 rfl (by decide)) (tfr (R := [.amap tabE]) rfl (by first | exact dd_lt _ | rfl) (t8_c (Pr.p1 ⟨19, xa, xb, xi⟩ s r) hx)) ?_
    simp only [go_sem,Nat.reduceAdd,Nat.reduceSub,Nat.reduceMul,Nat.reduceEqDiff,Nat.reduceLeDiff,Nat.reduceLT,↓reduceIte,Int.reduceToNat,reduceCtorEq,Int.reduceLT,Int.reduceLE,Int.reduceGT,Int.reduceGE,Int.reduceEq,Int.reduceNe,Int.reduceNeg,Int.reduceAdd,Int.reduceSub]
    exact finO _ _ _ (by rw [e0, tabR]; rfl)
  · subst h
    simp only [go_sem,Nat.reduceAdd,Nat.reduceSub,Nat.reduceMul,Nat.reduceEqDiff,Nat.reduceLeDiff,Nat.reduceLT,↓reduceIte,Int.reduceToNat,reduceCtorEq,Int.reduceLT,Int.reduceLE,Int.reduceGT,Int.reduceGE,Int.reduceEq,Int.reduceNe,Int.reduceNeg,Int.reduceAdd,Int.reduceSub,Pr.row]
    refine drawLL [.mn 0, .qu 0 1, .qu 0 1, .qu 0 1, .qu 0 1, .rd 0 1, .qu 1 1, .qu 0 1] 8 rfl (by kernel_rfl) (by kernel_rfl) (by kernel_rfl) (by kernel_rfl) ?_; simp only [List.take_succ_cons, List.take_zero]
    simp only [go_sem,Nat.reduceAdd,Nat.reduceSub,Nat.reduceMul,Nat.reduceEqDiff,Nat.reduceLeDiff,Nat.reduceLT,↓reduceIte,Int.reduceToNat,reduceCtorEq,Int.reduceLT,Int.reduceLE,Int.reduceGT,Int.reduceGE,Int.reduceEq,Int.reduceNe,Int.reduceNeg,Int.reduceAdd,Int.reduceSub]
    refine dM_call (enters_of Tryz.func141 rfl (by decide)) (table_c (.rows 31 [(Pr.p1 ⟨20, xa, xb, xi⟩ s r).row dnil]) (Pr.row_lt _ rfl 1)) ?_
    simp only [go_sem,Nat.reduceAdd,Nat.reduceSub,Nat.reduceMul,Nat.reduceEqDiff,Nat.reduceLeDiff,Nat.reduceLT,↓reduceIte,Int.reduceToNat,reduceCtorEq,Int.reduceLT,Int.reduceLE,Int.reduceGT,Int.reduceGE,Int.reduceEq,Int.reduceNe,Int.reduceNeg,Int.reduceAdd,Int.reduceSub,Pr.row,Pr.p1,Pr.toPc,Pr.start,tabE]
    refine rK_use (enters_of Tryz.func154 rfl (by decide)) (tfr (R := [.amap tabE]) rfl (by first | exact dd_lt _ | rfl) (t9_c (Pr.p1 ⟨20, xa, xb, xi⟩ s r) hx)) ?_
    simp only [go_sem,Nat.reduceAdd,Nat.reduceSub,Nat.reduceMul,Nat.reduceEqDiff,Nat.reduceLeDiff,Nat.reduceLT,↓reduceIte,Int.reduceToNat,reduceCtorEq,Int.reduceLT,Int.reduceLE,Int.reduceGT,Int.reduceGE,Int.reduceEq,Int.reduceNe,Int.reduceNeg,Int.reduceAdd,Int.reduceSub]
    exact finO _ _ _ (by rw [e0, tabR]; rfl)
  · subst h
    simp only [go_sem,Nat.reduceAdd,Nat.reduceSub,Nat.reduceMul,Nat.reduceEqDiff,Nat.reduceLeDiff,Nat.reduceLT,↓reduceIte,Int.reduceToNat,reduceCtorEq,Int.reduceLT,Int.reduceLE,Int.reduceGT,Int.reduceGE,Int.reduceEq,Int.reduceNe,Int.reduceNeg,Int.reduceAdd,Int.reduceSub,Pr.row]
    refine drawLL [.mn 0, .qu 0 1, .qu 0 1, .qu 0 1, .qu 0 1, .rd 0 1, .qu 1 1, .qu 0 1] 8 rfl (by kernel_rfl) (by kernel_rfl) (by kernel_rfl) (by kernel_rfl) ?_; simp only [List.take_succ_cons, List.take_zero]
    simp only [go_sem,Nat.reduceAdd,Nat.reduceSub,Nat.reduceMul,Nat.reduceEqDiff,Nat.reduceLeDiff,Nat.reduceLT,↓reduceIte,Int.reduceToNat,reduceCtorEq,Int.reduceLT,Int.reduceLE,Int.reduceGT,Int.reduceGE,Int.reduceEq,Int.reduceNe,Int.reduceNeg,Int.reduceAdd,Int.reduceSub]
    refine dM_call (enters_of Tryz.func141 rfl (by decide)) (table_c (.rows 31 [(Pr.p1 ⟨27, xa, xb, xi⟩ s r).row dnil]) (Pr.row_lt _ rfl 1)) ?_
    simp only [go_sem,Nat.reduceAdd,Nat.reduceSub,Nat.reduceMul,Nat.reduceEqDiff,Nat.reduceLeDiff,Nat.reduceLT,↓reduceIte,Int.reduceToNat,reduceCtorEq,Int.reduceLT,Int.reduceLE,Int.reduceGT,Int.reduceGE,Int.reduceEq,Int.reduceNe,Int.reduceNeg,Int.reduceAdd,Int.reduceSub,Pr.row,Pr.p1,Pr.toPc,Pr.start,tabE]
    refine rK_use (enters_of Tryz.func155 rfl (by decide)) (tfr (R := [.amap tabE]) rfl (by first | exact dd_lt _ | rfl) (t10_c (Pr.p1 ⟨27, xa, xb, xi⟩ s r) hx)) ?_
    simp only [go_sem,Nat.reduceAdd,Nat.reduceSub,Nat.reduceMul,Nat.reduceEqDiff,Nat.reduceLeDiff,Nat.reduceLT,↓reduceIte,Int.reduceToNat,reduceCtorEq,Int.reduceLT,Int.reduceLE,Int.reduceGT,Int.reduceGE,Int.reduceEq,Int.reduceNe,Int.reduceNeg,Int.reduceAdd,Int.reduceSub]
    exact finO _ _ _ (by rw [e0, tabR]; rfl)
  · subst h
    simp only [go_sem,Nat.reduceAdd,Nat.reduceSub,Nat.reduceMul,Nat.reduceEqDiff,Nat.reduceLeDiff,Nat.reduceLT,↓reduceIte,Int.reduceToNat,reduceCtorEq,Int.reduceLT,Int.reduceLE,Int.reduceGT,Int.reduceGE,Int.reduceEq,Int.reduceNe,Int.reduceNeg,Int.reduceAdd,Int.reduceSub,Pr.row]
    refine drawLL [.mn 0, .qu 0 1, .qu 0 1, .qu 0 1, .qu 0 1, .rd 0 1, .qu 1 1, .qu 0 1] 8 rfl (by kernel_rfl) (by kernel_rfl) (by kernel_rfl) (by kernel_rfl) ?_; simp only [List.take_succ_cons, List.take_zero]
    simp only [go_sem,Nat.reduceAdd,Nat.reduceSub,Nat.reduceMul,Nat.reduceEqDiff,Nat.reduceLeDiff,Nat.reduceLT,↓reduceIte,Int.reduceToNat,reduceCtorEq,Int.reduceLT,Int.reduceLE,Int.reduceGT,Int.reduceGE,Int.reduceEq,Int.reduceNe,Int.reduceNeg,Int.reduceAdd,Int.reduceSub]
    refine dM_call (enters_of Tryz.func141 rfl (by decide)) (table_c (.rows 31 [(Pr.p1 ⟨28, xa, xb, xi⟩ s r).row dnil]) (Pr.row_lt _ rfl 1)) ?_
    simp only [go_sem,Nat.reduceAdd,Nat.reduceSub,Nat.reduceMul,Nat.reduceEqDiff,Nat.reduceLeDiff,Nat.reduceLT,↓reduceIte,Int.reduceToNat,reduceCtorEq,Int.reduceLT,Int.reduceLE,Int.reduceGT,Int.reduceGE,Int.reduceEq,Int.reduceNe,Int.reduceNeg,Int.reduceAdd,Int.reduceSub,Pr.row,Pr.p1,Pr.toPc,Pr.start,tabE]
    refine rK_use (enters_of Tryz.func157 rfl (by decide)) (tfr (R := [.amap tabE]) rfl (by first | exact dd_lt _ | rfl) (t11_c (Pr.p1 ⟨28, xa, xb, xi⟩ s r) hx)) ?_
    simp only [go_sem,Nat.reduceAdd,Nat.reduceSub,Nat.reduceMul,Nat.reduceEqDiff,Nat.reduceLeDiff,Nat.reduceLT,↓reduceIte,Int.reduceToNat,reduceCtorEq,Int.reduceLT,Int.reduceLE,Int.reduceGT,Int.reduceGE,Int.reduceEq,Int.reduceNe,Int.reduceNeg,Int.reduceAdd,Int.reduceSub]
    exact finO _ _ _ (by rw [e0, tabR]; rfl)
  · subst h
    have hq := flt_perm0 _ _ (ffault0 hf ⟨r.r7, 8, false⟩ (by simp [foot]))
    simp only [go_sem,Nat.reduceAdd,Nat.reduceSub,Nat.reduceMul,Nat.reduceEqDiff,Nat.reduceLeDiff,Nat.reduceLT,↓reduceIte,Int.reduceToNat,reduceCtorEq,Int.reduceLT,Int.reduceLE,Int.reduceGT,Int.reduceGE,Int.reduceEq,Int.reduceNe,Int.reduceNeg,Int.reduceAdd,Int.reduceSub,Pr.row]
    refine drawLL [.mn 0, .qu 0 1, .qu 0 1, .qu 0 1, .qu 0 1, .rd 0 1, .qu 1 1, .qu 0 1] 8 rfl (by kernel_rfl) (by kernel_rfl) (by kernel_rfl) (by kernel_rfl) ?_; simp only [List.take_succ_cons, List.take_zero]
    simp only [go_sem,Nat.reduceAdd,Nat.reduceSub,Nat.reduceMul,Nat.reduceEqDiff,Nat.reduceLeDiff,Nat.reduceLT,↓reduceIte,Int.reduceToNat,reduceCtorEq,Int.reduceLT,Int.reduceLE,Int.reduceGT,Int.reduceGE,Int.reduceEq,Int.reduceNe,Int.reduceNeg,Int.reduceAdd,Int.reduceSub]
    refine dM_call (enters_of Tryz.func141 rfl (by decide)) (table_c (.rows 31 [(Pr.p1 ⟨29, xa, xb, xi⟩ s r).row dnil]) (Pr.row_lt _ rfl 1)) ?_
    simp only [go_sem,Nat.reduceAdd,Nat.reduceSub,Nat.reduceMul,Nat.reduceEqDiff,Nat.reduceLeDiff,Nat.reduceLT,↓reduceIte,Int.reduceToNat,reduceCtorEq,Int.reduceLT,Int.reduceLE,Int.reduceGT,Int.reduceGE,Int.reduceEq,Int.reduceNe,Int.reduceNeg,Int.reduceAdd,Int.reduceSub,Pr.row,Pr.p1,Pr.toPc,Pr.start,tabE]
    refine rK_use (enters_of Tryz.func158 rfl (by decide)) (tfr (R := [.amap tabE]) rfl (by first | exact dd_lt _ | rfl) (t12_c (Pr.p1 ⟨29, xa, xb, xi⟩ s r) hx hs h7 hq)) ?_
    simp only [go_sem,Nat.reduceAdd,Nat.reduceSub,Nat.reduceMul,Nat.reduceEqDiff,Nat.reduceLeDiff,Nat.reduceLT,↓reduceIte,Int.reduceToNat,reduceCtorEq,Int.reduceLT,Int.reduceLE,Int.reduceGT,Int.reduceGE,Int.reduceEq,Int.reduceNe,Int.reduceNeg,Int.reduceAdd,Int.reduceSub]
    exact finO _ _ _ (by rw [e0, tabR]; rfl)
  · subst h
    simp only [go_sem,Nat.reduceAdd,Nat.reduceSub,Nat.reduceMul,Nat.reduceEqDiff,Nat.reduceLeDiff,Nat.reduceLT,↓reduceIte,Int.reduceToNat,reduceCtorEq,Int.reduceLT,Int.reduceLE,Int.reduceGT,Int.reduceGE,Int.reduceEq,Int.reduceNe,Int.reduceNeg,Int.reduceAdd,Int.reduceSub,Pr.row]
    refine drawLL [.mn 0, .qu 0 1, .qu 0 1, .qu 0 1, .qu 0 1, .rd 0 1, .qu 1 1, .qu 0 1] 8 rfl (by kernel_rfl) (by kernel_rfl) (by kernel_rfl) (by kernel_rfl) ?_; simp only [List.take_succ_cons, List.take_zero]
    simp only [go_sem,Nat.reduceAdd,Nat.reduceSub,Nat.reduceMul,Nat.reduceEqDiff,Nat.reduceLeDiff,Nat.reduceLT,↓reduceIte,Int.reduceToNat,reduceCtorEq,Int.reduceLT,Int.reduceLE,Int.reduceGT,Int.reduceGE,Int.reduceEq,Int.reduceNe,Int.reduceNeg,Int.reduceAdd,Int.reduceSub]
    refine dM_call (enters_of Tryz.func141 rfl (by decide)) (table_c (.rows 31 [(Pr.p1 ⟨30, xa, xb, xi⟩ s r).row dnil]) (Pr.row_lt _ rfl 1)) ?_
    simp only [go_sem,Nat.reduceAdd,Nat.reduceSub,Nat.reduceMul,Nat.reduceEqDiff,Nat.reduceLeDiff,Nat.reduceLT,↓reduceIte,Int.reduceToNat,reduceCtorEq,Int.reduceLT,Int.reduceLE,Int.reduceGT,Int.reduceGE,Int.reduceEq,Int.reduceNe,Int.reduceNeg,Int.reduceAdd,Int.reduceSub,Pr.row,Pr.p1,Pr.toPc,Pr.start,tabE]
    refine rK_use (enters_of Tryz.func159 rfl (by decide)) (tfr (R := [.amap tabE]) rfl (by first | exact dd_lt _ | rfl) (t13_c (Pr.p1 ⟨30, xa, xb, xi⟩ s r) hx)) ?_
    simp only [go_sem,Nat.reduceAdd,Nat.reduceSub,Nat.reduceMul,Nat.reduceEqDiff,Nat.reduceLeDiff,Nat.reduceLT,↓reduceIte,Int.reduceToNat,reduceCtorEq,Int.reduceLT,Int.reduceLE,Int.reduceGT,Int.reduceGE,Int.reduceEq,Int.reduceNe,Int.reduceNeg,Int.reduceAdd,Int.reduceSub]
    exact finO _ _ _ (by rw [e0, tabR]; rfl)
  · subst h
    have hq := flt_perm0 _ _ (ffault0 hf ⟨r.r7, 8, false⟩ (by simp [foot]))
    simp only [go_sem,Nat.reduceAdd,Nat.reduceSub,Nat.reduceMul,Nat.reduceEqDiff,Nat.reduceLeDiff,Nat.reduceLT,↓reduceIte,Int.reduceToNat,reduceCtorEq,Int.reduceLT,Int.reduceLE,Int.reduceGT,Int.reduceGE,Int.reduceEq,Int.reduceNe,Int.reduceNeg,Int.reduceAdd,Int.reduceSub,Pr.row]
    refine drawLL [.mn 0, .qu 0 1, .qu 0 1, .qu 0 1, .qu 0 1, .rd 0 1, .qu 1 1, .qu 0 1] 8 rfl (by kernel_rfl) (by kernel_rfl) (by kernel_rfl) (by kernel_rfl) ?_; simp only [List.take_succ_cons, List.take_zero]
    simp only [go_sem,Nat.reduceAdd,Nat.reduceSub,Nat.reduceMul,Nat.reduceEqDiff,Nat.reduceLeDiff,Nat.reduceLT,↓reduceIte,Int.reduceToNat,reduceCtorEq,Int.reduceLT,Int.reduceLE,Int.reduceGT,Int.reduceGE,Int.reduceEq,Int.reduceNe,Int.reduceNeg,Int.reduceAdd,Int.reduceSub]
    refine dM_call (enters_of Tryz.func141 rfl (by decide)) (table_c (.rows 31 [(Pr.p1 ⟨31, xa, xb, xi⟩ s r).row dnil]) (Pr.row_lt _ rfl 1)) ?_
    simp only [go_sem,Nat.reduceAdd,Nat.reduceSub,Nat.reduceMul,Nat.reduceEqDiff,Nat.reduceLeDiff,Nat.reduceLT,↓reduceIte,Int.reduceToNat,reduceCtorEq,Int.reduceLT,Int.reduceLE,Int.reduceGT,Int.reduceGE,Int.reduceEq,Int.reduceNe,Int.reduceNeg,Int.reduceAdd,Int.reduceSub,Pr.row,Pr.p1,Pr.toPc,Pr.start,tabE]
    refine rK_use (enters_of Tryz.func160 rfl (by decide)) (tfr (R := [.amap tabE]) rfl (by first | exact dd_lt _ | rfl) (t14_c (Pr.p1 ⟨31, xa, xb, xi⟩ s r) hx hs h7 hq)) ?_
    simp only [go_sem,Nat.reduceAdd,Nat.reduceSub,Nat.reduceMul,Nat.reduceEqDiff,Nat.reduceLeDiff,Nat.reduceLT,↓reduceIte,Int.reduceToNat,reduceCtorEq,Int.reduceLT,Int.reduceLE,Int.reduceGT,Int.reduceGE,Int.reduceEq,Int.reduceNe,Int.reduceNeg,Int.reduceAdd,Int.reduceSub]
    exact finO _ _ _ (by rw [e0, tabR]; rfl)
  · subst h
    simp only [go_sem,Nat.reduceAdd,Nat.reduceSub,Nat.reduceMul,Nat.reduceEqDiff,Nat.reduceLeDiff,Nat.reduceLT,↓reduceIte,Int.reduceToNat,reduceCtorEq,Int.reduceLT,Int.reduceLE,Int.reduceGT,Int.reduceGE,Int.reduceEq,Int.reduceNe,Int.reduceNeg,Int.reduceAdd,Int.reduceSub,Pr.row]
    refine drawLL [.mn 0, .qu 0 1, .qu 0 1, .qu 0 1, .qu 0 1, .rd 0 1, .qu 1 1, .qu 0 1] 8 rfl (by kernel_rfl) (by kernel_rfl) (by kernel_rfl) (by kernel_rfl) ?_; simp only [List.take_succ_cons, List.take_zero]
    simp only [go_sem,Nat.reduceAdd,Nat.reduceSub,Nat.reduceMul,Nat.reduceEqDiff,Nat.reduceLeDiff,Nat.reduceLT,↓reduceIte,Int.reduceToNat,reduceCtorEq,Int.reduceLT,Int.reduceLE,Int.reduceGT,Int.reduceGE,Int.reduceEq,Int.reduceNe,Int.reduceNeg,Int.reduceAdd,Int.reduceSub]
    refine dM_call (enters_of Tryz.func141 rfl (by decide)) (table_c (.rows 31 [(Pr.p1 ⟨32, xa, xb, xi⟩ s r).row dnil]) (Pr.row_lt _ rfl 1)) ?_
    simp only [go_sem,Nat.reduceAdd,Nat.reduceSub,Nat.reduceMul,Nat.reduceEqDiff,Nat.reduceLeDiff,Nat.reduceLT,↓reduceIte,Int.reduceToNat,reduceCtorEq,Int.reduceLT,Int.reduceLE,Int.reduceGT,Int.reduceGE,Int.reduceEq,Int.reduceNe,Int.reduceNeg,Int.reduceAdd,Int.reduceSub,Pr.row,Pr.p1,Pr.toPc,Pr.start,tabE]
    refine rK_use (enters_of Tryz.func161 rfl (by decide)) (tfr (R := [.amap tabE]) rfl (by first | exact dd_lt _ | rfl) (t15_c (Pr.p1 ⟨32, xa, xb, xi⟩ s r) hx)) ?_
    simp only [go_sem,Nat.reduceAdd,Nat.reduceSub,Nat.reduceMul,Nat.reduceEqDiff,Nat.reduceLeDiff,Nat.reduceLT,↓reduceIte,Int.reduceToNat,reduceCtorEq,Int.reduceLT,Int.reduceLE,Int.reduceGT,Int.reduceGE,Int.reduceEq,Int.reduceNe,Int.reduceNeg,Int.reduceAdd,Int.reduceSub]
    exact finO _ _ _ (by rw [e0, tabR]; rfl)
  · subst h
    have hi0 : iw .i64 xi = xi := by
      have : fits 8 xi = true := hx.im
      simp [fits] at this
      exact iw64 (by omega) (by omega)
    simp only [go_sem,Nat.reduceAdd,Nat.reduceSub,Nat.reduceMul,Nat.reduceEqDiff,Nat.reduceLeDiff,Nat.reduceLT,↓reduceIte,Int.reduceToNat,reduceCtorEq,Int.reduceLT,Int.reduceLE,Int.reduceGT,Int.reduceGE,Int.reduceEq,Int.reduceNe,Int.reduceNeg,Int.reduceAdd,Int.reduceSub,Pr.row]
    refine drawLL [.mn 0, .qu 0 1, .qu 0 1, .qu 0 1, .qu 0 1, .rd 0 1, .qu 1 1, .qu 0 1] 8 rfl (by kernel_rfl) (by kernel_rfl) (by kernel_rfl) (by kernel_rfl) ?_; simp only [List.take_succ_cons, List.take_zero]
    simp only [go_sem,Nat.reduceAdd,Nat.reduceSub,Nat.reduceMul,Nat.reduceEqDiff,Nat.reduceLeDiff,Nat.reduceLT,↓reduceIte,Int.reduceToNat,reduceCtorEq,Int.reduceLT,Int.reduceLE,Int.reduceGT,Int.reduceGE,Int.reduceEq,Int.reduceNe,Int.reduceNeg,Int.reduceAdd,Int.reduceSub]
    refine dM_call (enters_of Tryz.func141 rfl (by decide)) (table_c (.rows 31 [(Pr.p1 ⟨33, xa, xb, xi⟩ s r).row dnil]) (Pr.row_lt _ rfl 1)) ?_
    simp only [go_sem,Nat.reduceAdd,Nat.reduceSub,Nat.reduceMul,Nat.reduceEqDiff,Nat.reduceLeDiff,Nat.reduceLT,↓reduceIte,Int.reduceToNat,reduceCtorEq,Int.reduceLT,Int.reduceLE,Int.reduceGT,Int.reduceGE,Int.reduceEq,Int.reduceNe,Int.reduceNeg,Int.reduceAdd,Int.reduceSub,Pr.row,Pr.p1,Pr.toPc,Pr.start,tabE]
    refine rK_use (enters_of Tryz.func162 rfl (by decide)) (tfr (R := [.amap tabE]) rfl (by first | exact dd_lt _ | rfl) (t16_c (Pr.p1 ⟨33, xa, xb, xi⟩ s r) hx hi0)) ?_
    simp only [go_sem,Nat.reduceAdd,Nat.reduceSub,Nat.reduceMul,Nat.reduceEqDiff,Nat.reduceLeDiff,Nat.reduceLT,↓reduceIte,Int.reduceToNat,reduceCtorEq,Int.reduceLT,Int.reduceLE,Int.reduceGT,Int.reduceGE,Int.reduceEq,Int.reduceNe,Int.reduceNeg,Int.reduceAdd,Int.reduceSub]
    exact finO _ _ _ (by rw [e0, tabR]; rfl)
  · subst h
    have hq := flt_perm0 _ _ (ffault0 hf ⟨iw .i64 (r.get xb + xi), 8, false⟩ (by simp [foot]))
    have hi0 : xi = 0 := swap_imm hx rfl
    have hb0 : iw .i64 (r.get xb + xi) = r.get xb := by rw [hi0, Int.add_zero]; exact (hr.get xb).iw
    rw [hb0] at hq
    simp only [go_sem,Nat.reduceAdd,Nat.reduceSub,Nat.reduceMul,Nat.reduceEqDiff,Nat.reduceLeDiff,Nat.reduceLT,↓reduceIte,Int.reduceToNat,reduceCtorEq,Int.reduceLT,Int.reduceLE,Int.reduceGT,Int.reduceGE,Int.reduceEq,Int.reduceNe,Int.reduceNeg,Int.reduceAdd,Int.reduceSub,Pr.row]
    refine drawLL [.mn 0, .qu 0 1, .qu 0 1, .qu 0 1, .qu 0 1, .rd 0 1, .qu 1 1, .qu 0 1] 8 rfl (by kernel_rfl) (by kernel_rfl) (by kernel_rfl) (by kernel_rfl) ?_; simp only [List.take_succ_cons, List.take_zero]
    simp only [go_sem,Nat.reduceAdd,Nat.reduceSub,Nat.reduceMul,Nat.reduceEqDiff,Nat.reduceLeDiff,Nat.reduceLT,↓reduceIte,Int.reduceToNat,reduceCtorEq,Int.reduceLT,Int.reduceLE,Int.reduceGT,Int.reduceGE,Int.reduceEq,Int.reduceNe,Int.reduceNeg,Int.reduceAdd,Int.reduceSub]
    refine dM_call (enters_of Tryz.func141 rfl (by decide)) (table_c (.rows 31 [(Pr.p1 ⟨34, xa, xb, xi⟩ s r).row dnil]) (Pr.row_lt _ rfl 1)) ?_
    simp only [go_sem,Nat.reduceAdd,Nat.reduceSub,Nat.reduceMul,Nat.reduceEqDiff,Nat.reduceLeDiff,Nat.reduceLT,↓reduceIte,Int.reduceToNat,reduceCtorEq,Int.reduceLT,Int.reduceLE,Int.reduceGT,Int.reduceGE,Int.reduceEq,Int.reduceNe,Int.reduceNeg,Int.reduceAdd,Int.reduceSub,Pr.row,Pr.p1,Pr.toPc,Pr.start,tabE]
    refine rK_use (enters_of Tryz.func163 rfl (by decide)) (tfr (R := [.amap tabE]) rfl (by first | exact dd_lt _ | rfl) (t17_c (Pr.p1 ⟨34, xa, xb, xi⟩ s r) hx hs (hr.get xb) hq)) ?_
    simp only [go_sem,Nat.reduceAdd,Nat.reduceSub,Nat.reduceMul,Nat.reduceEqDiff,Nat.reduceLeDiff,Nat.reduceLT,↓reduceIte,Int.reduceToNat,reduceCtorEq,Int.reduceLT,Int.reduceLE,Int.reduceGT,Int.reduceGE,Int.reduceEq,Int.reduceNe,Int.reduceNeg,Int.reduceAdd,Int.reduceSub]
    exact finO _ _ _ (by rw [e0, tabR]; rfl)
  · subst h
    simp only [go_sem,Nat.reduceAdd,Nat.reduceSub,Nat.reduceMul,Nat.reduceEqDiff,Nat.reduceLeDiff,Nat.reduceLT,↓reduceIte,Int.reduceToNat,reduceCtorEq,Int.reduceLT,Int.reduceLE,Int.reduceGT,Int.reduceGE,Int.reduceEq,Int.reduceNe,Int.reduceNeg,Int.reduceAdd,Int.reduceSub,Pr.row]
    refine drawLL [.mn 0, .qu 0 1, .qu 0 1, .qu 0 1, .qu 0 1, .rd 0 1, .qu 1 1, .qu 0 1] 8 rfl (by kernel_rfl) (by kernel_rfl) (by kernel_rfl) (by kernel_rfl) ?_; simp only [List.take_succ_cons, List.take_zero]
    simp only [go_sem,Nat.reduceAdd,Nat.reduceSub,Nat.reduceMul,Nat.reduceEqDiff,Nat.reduceLeDiff,Nat.reduceLT,↓reduceIte,Int.reduceToNat,reduceCtorEq,Int.reduceLT,Int.reduceLE,Int.reduceGT,Int.reduceGE,Int.reduceEq,Int.reduceNe,Int.reduceNeg,Int.reduceAdd,Int.reduceSub]
    refine dM_call (enters_of Tryz.func141 rfl (by decide)) (table_c (.rows 31 [(Pr.p1 ⟨76, xa, xb, xi⟩ s r).row dnil]) (Pr.row_lt _ rfl 1)) ?_
    simp only [go_sem,Nat.reduceAdd,Nat.reduceSub,Nat.reduceMul,Nat.reduceEqDiff,Nat.reduceLeDiff,Nat.reduceLT,↓reduceIte,Int.reduceToNat,reduceCtorEq,Int.reduceLT,Int.reduceLE,Int.reduceGT,Int.reduceGE,Int.reduceEq,Int.reduceNe,Int.reduceNeg,Int.reduceAdd,Int.reduceSub,Pr.row,Pr.p1,Pr.toPc,Pr.start,tabE]
    refine rK_pans (enters_of Tryz.func164 rfl (by decide)) (ACalls.framep (H0 := [.rows 31 [(Pr.p1 ⟨76, xa, xb, xi⟩ s r).row dnil]]) (R := [.amap tabE]) (t18_c (Pr.p1 ⟨76, xa, xb, xi⟩ s r)) rfl rfl (row1_lt _ rfl) (row1_lt _ rfl) rfl) ?_
    simp only [go_sem,Nat.reduceAdd,Nat.reduceSub,Nat.reduceMul,Nat.reduceEqDiff,Nat.reduceLeDiff,Nat.reduceLT,↓reduceIte,Int.reduceToNat,reduceCtorEq,Int.reduceLT,Int.reduceLE,Int.reduceGT,Int.reduceGE,Int.reduceEq,Int.reduceNe,Int.reduceNeg,Int.reduceAdd,Int.reduceSub]
    exact finT ⟨2, 0, ⟨0, 0⟩⟩ _ _ (by rw [e0, tabR]; rfl)
end Go.Proofs.YtfiflailjbmlpaaGreatDoor
set_option maxRecDepth 100000
set_option linter.unusedVariables false
set_option linter.unusedSimpArgs false
namespace Go.Proofs.YtfiflailjbmlpaaGreatDoor
open Go.AM
structure Eff where
  rg : Rg
  pos : Int
  data : List UInt8
  trap : Trp
  x : Ins
def Eff.cellsD (e : Eff) (d : AV) : List AV :=
  [iv e.rg.r0, iv e.rg.r1, iv e.rg.r2, iv e.rg.r3, iv e.rg.r4, iv e.rg.r5, iv e.rg.r6, iv e.rg.r7, iv e.rg.pc, iv e.pos, d, iv e.trap.kind, iv e.trap.n, iv e.trap.f.kind, iv e.trap.f.pos, iv e.x.op, iv e.x.a, iv e.x.b, iv e.x.imm]
def Eff.cells (e : Eff) : List AV := e.cellsD (dby e.data)
def Eff.av (e : Eff) : AV := .agg e.cells
theorem Eff.av_lt (e : Eff) (m : Nat) : e.av.lt m = true := by simp [Eff.av, Eff.cells, Eff.cellsD, AV.lt, ltL]
def Res.eff (x : Ins) (r : Rg) : Res → Eff
  | .tr t _ => ⟨r, 0, [], t, x⟩
  | .ok p d => ⟨p.rg, p.pos, d, ⟨p.tk, p.tn, ⟨0, 0⟩⟩, x⟩
def exec (x : Ins) (s : Sp) (r : Rg) : Eff := (effect x s r).eff x r
theorem leL_dnil (e : Eff) : LeL (e.cellsD dnil) (e.cellsD (dby [])) := by
  unfold Eff.cellsD
  repeat' (first | exact LeL.nil | refine LeL.cons (.refl _) ?_ | refine LeL.cons (.nil true false 0 1 (by simp)) ?_)
theorem exec_res : Tryz.f112.results.toList = [ResultVar.cell 6 40] := rfl
theorem exec_c (x : Ins) (hx : x.ok) (s : Sp) (hs : s.ok) (r : Rg) (hr : r.wf) :
    ACalls Tryz.prog 112 [x.av, s.av, r.av] [] (fun o H => o = .ret (exec x s r).av ∧ H = []) := by
  refine ACalls.up ?_
  refine ACalls.introD (n := 43) Tryz.func112 rfl (by kernel_rfl) rfl ?_
  refine DWp.seq (by kernel_rfl) ?_
  generalize hpost : (fun (o : Out) (H : Heap) => o = Out.ret (exec x s r).av ∧ H = []) = post
  have fin : ∀ (e : Eff) H, e = exec x s r → Up 0 post (.ret (.agg (e.cellsD (dby e.data)))) H := fun e H h => finv (Eff.av_lt e 0) (by rw [← hpost, ← h]; exact ⟨rfl, rfl⟩) H
  have finN : ∀ (e : Eff) H, e = exec x s r → e.data = [] → Up 0 post (.ret (.agg (e.cellsD dnil))) H := fun e H h hd => .le (.ret (.agg (leL_dnil e))) (LeH.refl _) (by have := fin e H h; rwa [hd] at this)
  simp only [go_sem,Nat.reduceAdd,Nat.reduceSub,Nat.reduceMul,Nat.reduceEqDiff,Nat.reduceLeDiff,Nat.reduceLT,↓reduceIte,Int.reduceToNat,reduceCtorEq,Int.reduceLT,Int.reduceLE,Int.reduceGT,Int.reduceGE,Int.reduceEq,Int.reduceNe,Int.reduceNeg,Int.reduceAdd,Int.reduceSub,Ins.av,Ins.cells,Sp.av,Rg.av,Rg.cells]
  refine DWp.defer (by kernel_rfl) rfl (by kernel_rfl) (by kernel_rfl) ?_
  simp only [go_sem,Nat.reduceAdd,Nat.reduceSub,Nat.reduceMul,Nat.reduceEqDiff,Nat.reduceLeDiff,Nat.reduceLT,↓reduceIte,Int.reduceToNat,reduceCtorEq,Int.reduceLT,Int.reduceLE,Int.reduceGT,Int.reduceGE,Int.reduceEq,Int.reduceNe,Int.reduceNeg,Int.reduceAdd,Int.reduceSub]
  refine ⟨(enters_of Tryz.func129 rfl (by decide)), fun d => ?_⟩
  refine draw [.qu 0 0, .qu 0 0, .qu 0 0, .qu 0 0, .qu 0 0, .qu 0 0, .qu 0 0, .qu 0 0, .qu 0 0, .qu 0 0, .qu 0 0, .qu 0 0, .qu 0 0, .mn 0, .qu 1 1] (by kernel_rfl) (by kernel_rfl) ?_
  simp only [go_sem,Nat.reduceAdd,Nat.reduceSub,Nat.reduceMul,Nat.reduceEqDiff,Nat.reduceLeDiff,Nat.reduceLT,↓reduceIte,Int.reduceToNat,reduceCtorEq,Int.reduceLT,Int.reduceLE,Int.reduceGT,Int.reduceGE,Int.reduceEq,Int.reduceNe,Int.reduceNeg,Int.reduceAdd,Int.reduceSub,Ins.cells,Rg.cells]
  refine y_call (enters_of Tryz.func131 rfl (by decide)) (fun _ => ACalls.pure_use (ilen_c x hx) rfl rfl) ?_
  simp only [go_sem,Nat.reduceAdd,Nat.reduceSub,Nat.reduceMul,Nat.reduceEqDiff,Nat.reduceLeDiff,Nat.reduceLT,↓reduceIte,Int.reduceToNat,reduceCtorEq,Int.reduceLT,Int.reduceLE,Int.reduceGT,Int.reduceGE,Int.reduceEq,Int.reduceNe,Int.reduceNeg,Int.reduceAdd,Int.reduceSub]
  refine y_call (enters_of Tryz.func130 rfl (by decide)) (fun _ => ACalls.pure_use (mustI_c _) rfl rfl) ?_
  have hl : iw .i64 (x.len : Int) = x.len := by have := flen_le (kform x.op); exact iw64 (by unfold Ins.len; omega) (by unfold Ins.len; omega)
  simp only [go_sem,Nat.reduceAdd,Nat.reduceSub,Nat.reduceMul,Nat.reduceEqDiff,Nat.reduceLeDiff,Nat.reduceLT,↓reduceIte,Int.reduceToNat,reduceCtorEq,Int.reduceLT,Int.reduceLE,Int.reduceGT,Int.reduceGE,Int.reduceEq,Int.reduceNe,Int.reduceNeg,Int.reduceAdd,Int.reduceSub,hl]
  have hc := execute_c x hx s hs r hr
  cases he : effect x s r with
  | tr t p =>
    rw [he] at hc
    have hc' : ACalls Tryz.prog 132 [.ptr 0 0 0] [.rows 31 [(Pr.start x s r).row dnil]] (fun o H => o = .pan (trapV t) ∧ H = [.rows 31 [p.row dnil]]) := hc
    refine rK_pans (enters_of Tryz.func132 rfl (by decide)) (hc'.panE [4] (trapV t) [.rows 4 [[iv x.op, iv x.a, iv x.b, iv x.imm]], .rows 2 [[.view false 1 (s.perm.map r1), .view false 1 (s.byt.map rb)]], .rows 9 [[iv r.r0, iv r.r1, iv r.r2, iv r.r3, iv r.r4, iv r.r5, iv r.r6, iv r.r7, iv r.pc]], .rows 19 [Eff.cellsD ⟨⟨0, 0, 0, 0, 0, 0, 0, 0, 0⟩, 0, [], ⟨0, 0, ⟨0, 0⟩⟩, ⟨0, 0, 0, 0⟩⟩ dnil], .rows 31 [p.row dnil]] (by decide) rfl (by simp) rfl rfl rfl rfl) ?_
    simp only [go_sem,Nat.reduceAdd,Nat.reduceSub,Nat.reduceMul,Nat.reduceEqDiff,Nat.reduceLeDiff,Nat.reduceLT,↓reduceIte,Int.reduceToNat,reduceCtorEq,Int.reduceLT,Int.reduceLE,Int.reduceGT,Int.reduceGE,Int.reduceEq,Int.reduceNe,Int.reduceNeg,Int.reduceAdd,Int.reduceSub,trapV,Trp.cells,Eff.cellsD]
    refine ADef.intro (n := 17) Tryz.func129 rfl rfl (by kernel_rfl) rfl (by kernel_rfl) ?_
    simp only [go_sem,Nat.reduceAdd,Nat.reduceSub,Nat.reduceMul,Nat.reduceEqDiff,Nat.reduceLeDiff,Nat.reduceLT,↓reduceIte,Int.reduceToNat,reduceCtorEq,Int.reduceLT,Int.reduceLE,Int.reduceGT,Int.reduceGE,Int.reduceEq,Int.reduceNe,Int.reduceNeg,Int.reduceAdd,Int.reduceSub,exec_res]
    exact finN ⟨r, 0, [], t, x⟩ _ (by rw [exec, he]; rfl) rfl
  | ok p d' =>
    rw [he] at hc
    have hc' : ACalls Tryz.prog 132 [.ptr 0 0 0] [.rows 31 [(Pr.start x s r).row dnil]] (fun o H => o = .ret (.tuple []) ∧ H = [.rows 31 [p.row (dav d')]]) := hc
    refine rK_use (enters_of Tryz.func132 rfl (by decide)) (hc'.useE [4] (.tuple []) [.rows 4 [[iv x.op, iv x.a, iv x.b, iv x.imm]], .rows 2 [[.view false 1 (s.perm.map r1), .view false 1 (s.byt.map rb)]], .rows 9 [[iv r.r0, iv r.r1, iv r.r2, iv r.r3, iv r.r4, iv r.r5, iv r.r6, iv r.r7, iv r.pc]], .rows 19 [Eff.cellsD ⟨⟨0, 0, 0, 0, 0, 0, 0, 0, 0⟩, 0, [], ⟨0, 0, ⟨0, 0⟩⟩, ⟨0, 0, 0, 0⟩⟩ dnil], .rows 31 [p.row (dav d')]] (by decide) rfl (by simp) rfl rfl rfl (by cases d' <;> rfl)) ?_
    simp only [go_sem,Nat.reduceAdd,Nat.reduceSub,Nat.reduceMul,Nat.reduceEqDiff,Nat.reduceLeDiff,Nat.reduceLT,↓reduceIte,Int.reduceToNat,reduceCtorEq,Int.reduceLT,Int.reduceLE,Int.reduceGT,Int.reduceGE,Int.reduceEq,Int.reduceNe,Int.reduceNeg,Int.reduceAdd,Int.reduceSub]
    refine draw [.qu 0 0, .qu 0 0, .qu 0 0, .qu 0 0, .qu 0 0, .qu 0 0, .qu 0 0, .qu 0 0, .qu 0 0, .qu 0 0, .qu 0 0, .qu 0 0, .qu 0 0, .qu 0 0, .qu 0 0, .qu 0 0, .qu 0 0, .qu 0 0, .mn 0] (by kernel_rfl) (by kernel_rfl) ?_
    cases d' with
    | nil =>
      simp only [go_sem,Nat.reduceAdd,Nat.reduceSub,Nat.reduceMul,Nat.reduceEqDiff,Nat.reduceLeDiff,Nat.reduceLT,↓reduceIte,Int.reduceToNat,reduceCtorEq,Int.reduceLT,Int.reduceLE,Int.reduceGT,Int.reduceGE,Int.reduceEq,Int.reduceNe,Int.reduceNeg,Int.reduceAdd,Int.reduceSub,Pr.row,Eff.cellsD,dav]
      refine ADef.intro (n := 17) Tryz.func129 rfl rfl (by kernel_rfl) rfl (by kernel_rfl) ?_
      simp only [go_sem,Nat.reduceAdd,Nat.reduceSub,Nat.reduceMul,Nat.reduceEqDiff,Nat.reduceLeDiff,Nat.reduceLT,↓reduceIte,Int.reduceToNat,reduceCtorEq,Int.reduceLT,Int.reduceLE,Int.reduceGT,Int.reduceGE,Int.reduceEq,Int.reduceNe,Int.reduceNeg,Int.reduceAdd,Int.reduceSub,exec_res]
      exact finN ⟨p.rg, p.pos, [], ⟨p.tk, p.tn, ⟨0, 0⟩⟩, x⟩ _ (by rw [exec, he]; rfl) rfl
    | cons b l =>
      simp only [go_sem,Nat.reduceAdd,Nat.reduceSub,Nat.reduceMul,Nat.reduceEqDiff,Nat.reduceLeDiff,Nat.reduceLT,↓reduceIte,Int.reduceToNat,reduceCtorEq,Int.reduceLT,Int.reduceLE,Int.reduceGT,Int.reduceGE,Int.reduceEq,Int.reduceNe,Int.reduceNeg,Int.reduceAdd,Int.reduceSub,Pr.row,Eff.cellsD,dav]
      refine ADef.intro (n := 17) Tryz.func129 rfl rfl (by kernel_rfl) rfl (by kernel_rfl) ?_
      simp only [go_sem,Nat.reduceAdd,Nat.reduceSub,Nat.reduceMul,Nat.reduceEqDiff,Nat.reduceLeDiff,Nat.reduceLT,↓reduceIte,Int.reduceToNat,reduceCtorEq,Int.reduceLT,Int.reduceLE,Int.reduceGT,Int.reduceGE,Int.reduceEq,Int.reduceNe,Int.reduceNeg,Int.reduceAdd,Int.reduceSub,exec_res]
      exact fin ⟨p.rg, p.pos, b :: l, ⟨p.tk, p.tn, ⟨0, 0⟩⟩, x⟩ _ (by rw [exec, he]; rfl)
end Go.Proofs.YtfiflailjbmlpaaGreatDoor
set_option maxRecDepth 100000
set_option linter.unusedVariables false
set_option linter.unusedSimpArgs false
namespace Go.Proofs.YtfiflailjbmlpaaGreatDoor
open Go.AM
theorem bOr_add {k : Nat} (hk : k ≤ 8) {v c : Int} (h0 : 0 ≤ c) (h1 : c < 2 ^ k) : bOr .i64 (iw .i64 (v * 2 ^ k)) c = iw .i64 (v * 2 ^ k + c) := by
  have hp : (0 : Int) < 2 ^ k := Int.pow_pos (by decide)
  have h256 : (2 : Int) ^ k ≤ 256 := by
    have : k = 0 ∨ k = 1 ∨ k = 2 ∨ k = 3 ∨ k = 4 ∨ k = 5 ∨ k = 6 ∨ k = 7 ∨ k = 8 := by omega
    rcases this with rfl | rfl | rfl | rfl | rfl | rfl | rfl | rfl | rfl <;> decide
  unfold bOr
  show iw .i64 (((BitVec.ofInt 64 (iw .i64 (v * 2 ^ k)) ||| BitVec.ofInt 64 c).toNat : Nat) : Int) = _
  rw [BitVec.toNat_or]
  have e1 := toNat_ofInt (iw .i64 (v * 2 ^ k))
  have e2 := toNat_ofInt c
  have e3 : iw .i64 (v * 2 ^ k) % 18446744073709551616 = (v * 2 ^ k) % 18446744073709551616 := by rw [iwi64]; omega
  rw [e3] at e1
  generalize hA : (BitVec.ofInt 64 (iw .i64 (v * 2 ^ k))).toNat = A at *
  generalize hC : (BitVec.ofInt 64 c).toNat = C at *
  have hc : (C : Int) = c := by rw [e2]; omega
  have hdvd : (2 ^ k : Nat) ∣ A := by
    have h2 : ((2 ^ k : Nat) : Int) ∣ (A : Int) := by
      rw [e1]
      have hd : ((2 : Int) ^ k) ∣ 18446744073709551616 := by
        have : (18446744073709551616 : Int) = 2 ^ k * 2 ^ (64 - k) := by rw [← Int.pow_add]; rw [show k + (64 - k) = 64 by omega]; rfl
        exact ⟨_, this⟩
      have : ((2 ^ k : Nat) : Int) = 2 ^ k := by simp
      rw [this, Int.emod_def]
      exact Int.dvd_sub (Int.dvd_mul_left _ _) (Int.dvd_mul_of_dvd_left hd)
    exact Int.natCast_dvd_natCast.1 h2
  obtain ⟨q, rfl⟩ := hdvd
  have hlt : C < 2 ^ k := by
    have : (C : Int) < ((2 ^ k : Nat) : Int) := by rw [hc]; simpa using h1
    exact Int.ofNat_lt.1 this
  rw [← Nat.two_pow_add_eq_or_of_lt hlt]
  refine iw_congr ?_
  rw [Int.natCast_add, hc, Int.add_emod, e1, Int.emod_emod_of_dvd _ (Int.dvd_refl _), ← Int.add_emod]
theorem bOr128 (v : Int) {c : Int} (h0 : 0 ≤ c) (h1 : c < 128) : bOr .i64 (iw .i64 (v * 128)) c = iw .i64 (v * 128 + c) := bOr_add (k := 7) (by decide) h0 h1
theorem scan_at (wide : Bool) (b : List UInt8) (n : Nat) : ∀ (m i : Nat), scan wide b n m i = 0 → ∀ j, i ≤ j → j < i + m → ∃ c, b[j]? = some c ∧ (c.toNat : Int) < 128
  | 0, i, _, j, h1, h2 => by omega
  | m + 1, i, h, j, h1, h2 => by
    rw [scan] at h
    split at h
    · cases h
    · rename_i c hc
      split at h
      · cases h
      · rename_i hno
        rcases Nat.eq_or_lt_of_le h1 with rfl | h3
        · exact ⟨c, hc, by omega⟩
        · exact scan_at wide b n m (i + 1) h j h3 (by omega)
theorem fits_imm {f : Int} {bs : List UInt8} (hl : bs.length = bytesOf f) (hb : ∀ c ∈ bs, (c.toNat : Int) < 128) : fits f (immL bs (imm0 f bs)) = true := by
  unfold fits
  by_cases h3 : f = 3
  · rw [if_pos h3]
  rw [if_neg h3]
  by_cases h8 : f = 8
  · rw [if_pos h8]
    subst h8
    match bs, hl with
    | [c], _ =>
      have hc := hb c (by simp)
      have h0 := u8_ge c
      have : immL [c] (imm0 8 [c]) = c.toNat := by simp only [immL, imm0, List.foldr]; exact bOr0 c
      rw [this]
      simp; omega
  rw [if_neg h8]
  have hcase : bytesOf f = 0 ∨ bytesOf f = 1 ∨ bytesOf f = 2 := by unfold bytesOf; rw [if_neg h3]; split <;> (try split) <;> simp
  rcases hcase with hc | hc | hc
  · rw [hc] at hl ⊢
    rw [List.length_eq_zero_iff.1 hl]
    simp [immL, imm0]
  · rw [hc] at hl ⊢
    match bs, hl with
    | [c], _ =>
      have hc := hb c (by simp)
      have h0 := u8_ge c
      have e : immL [c] (imm0 f [c]) = bOr .i64 (iw .i64 (imm0 f [c] * 128)) (c.toNat : Int) := rfl
      rw [e, bOr128 _ h0 hc]
      by_cases h64 : 64 ≤ (c.toNat : Int)
      · have : imm0 f [c] = -1 := by simp [imm0, topB, h8, h64]
        rw [this, iw64 (by omega) (by omega)]
        simp; omega
      · have : imm0 f [c] = 0 := by simp [imm0, topB, h64]
        rw [this, iw64 (by omega) (by omega)]
        simp; omega
  · rw [hc] at hl ⊢
    match bs, hl with
    | [c, d], _ =>
      have hc := hb c (by simp)
      have hd := hb d (by simp)
      have h0 := u8_ge c
      have h1 := u8_ge d
      have e : immL [c, d] (imm0 f [c, d]) = bOr .i64 (iw .i64 (bOr .i64 (iw .i64 (imm0 f [c, d] * 128)) (d.toNat : Int) * 128)) (c.toNat : Int) := rfl
      rw [e, bOr128 _ h1 hd, bOr128 _ h0 hc]
      by_cases h64 : 64 ≤ (d.toNat : Int)
      · have : imm0 f [c, d] = -1 := by simp [imm0, topB, h8, h64]
        rw [this, iw64 (n := -1 * 128 + (d.toNat : Int)) (by omega) (by omega), iw64 (by omega) (by omega)]
        simp; omega
      · have : imm0 f [c, d] = 0 := by simp [imm0, topB, h64]
        rw [this, iw64 (n := 0 * 128 + (d.toNat : Int)) (by omega) (by omega), iw64 (by omega) (by omega)]
        simp; omega
theorem decB_ok {b : List UInt8} {op a b' : Int} {k : Nat} (ho : isOp op = true) (ha : 0 ≤ a ∧ a ≤ 7) (hb : 0 ≤ b' ∧ b' ≤ 7) (hA : hasA (kform op) = true ∨ a = 0) (hB : hasB (kform op) = true ∨ b' = 0) (hk : flen (kform op) = bytesOf (kform op) + k) (hkl : k ≤ b.length)
    (he : (decB b op a b' k).e = 0) : (decB b op a b' k).x.ok ∧ (decB b op a b' k).n = flen (kform op) ∧ (decB b op a b' k).x.op = op := by
  unfold decB at he ⊢
  split
  · rename_i hs
    refine ⟨⟨ho, ha.1, ha.2, hb.1, hb.2, hA, hB, ?_⟩, rfl, rfl⟩
    rw [hk, Nat.add_sub_cancel] at hs
    have hlen := scan_len _ _ _ _ _ hs hkl
    rw [hk]
    refine fits_imm (by simp; omega) ?_
    intro c hc
    obtain ⟨i, hi⟩ := List.getElem?_of_mem hc
    have hil := (List.getElem?_eq_some_iff.1 hi).1
    simp at hil
    rw [List.getElem?_drop, List.getElem?_take, if_pos (by omega)] at hi
    obtain ⟨c', h1, h2⟩ := scan_at _ _ _ _ _ hs (k + i) (by omega) (by omega)
    rw [hi] at h1
    injection h1 with h1
    rw [h1]; exact h2
  · rename_i hs
    rw [if_neg hs] at he
    exact absurd he hs
theorem dec_ok {b : List UInt8} (he : (dec b).e = 0) : (dec b).x.ok := by
  rcases b with _ | ⟨b0, rest⟩
  · cases he
  rw [dec_cons] at he ⊢
  by_cases ho : isOp ((b0.toNat : Int) - 128) = true
  · rw [if_pos ho] at he ⊢
    have hsp := flen_split (kform ((b0.toNat : Int) - 128))
    by_cases hA : hasA (kform ((b0.toNat : Int) - 128)) = true
    · rw [if_pos hA] at he ⊢ hsp
      rcases rest with _ | ⟨b1, rest⟩
      · cases he
      · simp only at he ⊢
        have h0 := u8_ge b1
        by_cases hB : hasB (kform ((b0.toNat : Int) - 128)) = true
        · rw [if_pos hB] at he ⊢
          by_cases h64 : 64 ≤ (b1.toNat : Int)
          · rw [if_pos h64] at he; cases he
          · rw [if_neg h64] at he ⊢
            have e1 : (b1.toNat : Int).tdiv 8 = (b1.toNat : Int) / 8 := Int.tdiv_eq_ediv_of_nonneg h0
            have e2 : (b1.toNat : Int).tmod 8 = (b1.toNat : Int) % 8 := Int.tmod_eq_emod_of_nonneg h0
            exact (decB_ok ho (by omega) (by omega) (.inl hA) (.inl hB) hsp (by simp) he).1
        · rw [if_neg hB] at he ⊢
          by_cases h64 : 8 ≤ (b1.toNat : Int)
          · rw [if_pos h64] at he; cases he
          · rw [if_neg h64] at he ⊢
            exact (decB_ok ho (by omega) (by omega) (.inl hA) (.inr rfl) hsp (by simp) he).1
    · rw [if_neg hA] at he ⊢ hsp
      exact (decB_ok ho (by omega) (by omega) (.inr rfl) (.inr rfl) hsp (by simp) he).1
  · rw [if_neg ho] at he; cases he
theorem dec_e (b : List UInt8) : (dec b).e = 0 ∨ (dec b).e = 20 ∨ (dec b).e = 21 := by
  have hB : ∀ op a b' k, (decB b op a b' k).e = 0 ∨ (decB b op a b' k).e = 20 ∨ (decB b op a b' k).e = 21 := fun op a b' k => by
    unfold decB
    split
    · exact .inl rfl
    · exact scan_vals _ _ _ _ _
  rcases b with _ | ⟨b0, rest⟩
  · exact .inr (.inr rfl)
  rw [dec_cons]
  split
  · split
    · rcases rest with _ | ⟨b1, rest⟩
      · exact .inr (.inr rfl)
      · simp only
        split <;> split <;> first | exact .inr (.inl rfl) | exact hB _ _ _ _
    · exact hB _ _ _ _
  · exact .inr (.inl rfl)
def x0 : Ins := ⟨0, 0, 0, 0⟩
def step (s : Sp) (r : Rg) : Eff :=
  if (dec (s.fet r.pc 12 0)).e = 0 then exec (dec (s.fet r.pc 12 0)).x s r
  else if (dec (s.fet r.pc 12 0)).e = 21 then ⟨r, 0, [], ⟨3, 0, s.flt r.pc 4 ((s.fet r.pc 12 0).length + 1) 0⟩, x0⟩
  else ⟨r, 0, [], ⟨4, 0, ⟨0, 0⟩⟩, x0⟩
theorem step_c (s : Sp) (hs : s.ok) (r : Rg) (hr : r.wf) :
    ACalls Tryz.prog 75 [s.av, r.av] [] (fun o H => o = .ret (step s r).av ∧ H = []) := by
  refine ACalls.up ?_
  refine ACalls.intro (cs := []) (n := 49) Tryz.func75 rfl rfl rfl (by kernel_rfl) rfl ?_
  generalize hpost : (fun (o : Out) (H : Heap) => o = Out.ret (step s r).av ∧ H = []) = post
  have finN : ∀ (e : Eff) H, e = step s r → e.data = [] → Up 0 post (.ret (.agg (e.cellsD dnil))) H := fun e H h hd => .le (.ret (.agg (leL_dnil e))) (LeH.refl _) (finv (v := .agg (e.cellsD (dby []))) (by simp [Eff.cellsD, AV.lt, ltL]) (by rw [← hpost, ← h]; exact ⟨by rw [Eff.av, Eff.cells, hd], rfl⟩) _)
  simp only [go_sem,Nat.reduceAdd,Nat.reduceSub,Nat.reduceMul,Nat.reduceEqDiff,Nat.reduceLeDiff,Nat.reduceLT,↓reduceIte,Int.reduceToNat,reduceCtorEq,Int.reduceLT,Int.reduceLE,Int.reduceGT,Int.reduceGE,Int.reduceEq,Int.reduceNe,Int.reduceNeg,Int.reduceAdd,Int.reduceSub,Sp.av,Rg.av,Rg.cells]
  refine rK_use (enters_of Tryz.func95 rfl (by decide)) (ACalls.pure_use (fetch_c s hs r.pc 12 (by decide)) rfl (by simp [AV.lt, ltL])) ?_
  have hbl := s.fet_len r.pc 12 0
  simp only [go_sem,Nat.reduceAdd,Nat.reduceSub,Nat.reduceMul,Nat.reduceEqDiff,Nat.reduceLeDiff,Nat.reduceLT,↓reduceIte,Int.reduceToNat,reduceCtorEq,Int.reduceLT,Int.reduceLE,Int.reduceGT,Int.reduceGE,Int.reduceEq,Int.reduceNe,Int.reduceNeg,Int.reduceAdd,Int.reduceSub]
  refine rK_use (enters_of Tryz.func111 rfl (by decide)) (ACalls.pure_use (mustB_c ((s.fet r.pc 12 0).map rb) (rb_lt0 _)) rfl (by simp [AV.lt])) ?_
  generalize hb : s.fet r.pc 12 0 = b at *
  simp only [go_sem,Nat.reduceAdd,Nat.reduceSub,Nat.reduceMul,Nat.reduceEqDiff,Nat.reduceLeDiff,Nat.reduceLT,↓reduceIte,Int.reduceToNat,reduceCtorEq,Int.reduceLT,Int.reduceLE,Int.reduceGT,Int.reduceGE,Int.reduceEq,Int.reduceNe,Int.reduceNeg,Int.reduceAdd,Int.reduceSub]
  refine rK_use (enters_of Tryz.func96 rfl (by decide)) (ACalls.pure_use (decode_c b (by omega)) rfl (by simp [Dec.av, AV.lt, ltL, Ins.av, Ins.cells])) ?_
  rcases dec_e b with he | he | he
  · simp only [go_sem,Nat.reduceAdd,Nat.reduceSub,Nat.reduceMul,Nat.reduceEqDiff,Nat.reduceLeDiff,Nat.reduceLT,↓reduceIte,Int.reduceToNat,reduceCtorEq,Int.reduceLT,Int.reduceLE,Int.reduceGT,Int.reduceGE,Int.reduceEq,Int.reduceNe,Int.reduceNeg,Int.reduceAdd,Int.reduceSub,Dec.av,he,Ins.av,Ins.cells]
    refine rK_use (enters_of Tryz.func112 rfl (by decide)) (ACalls.pure_use (exec_c (dec b).x (dec_ok he) s hs r hr) rfl (Eff.av_lt _ _)) ?_
    simp only [go_sem,Nat.reduceAdd,Nat.reduceSub,Nat.reduceMul,Nat.reduceEqDiff,Nat.reduceLeDiff,Nat.reduceLT,↓reduceIte,Int.reduceToNat,reduceCtorEq,Int.reduceLT,Int.reduceLE,Int.reduceGT,Int.reduceGE,Int.reduceEq,Int.reduceNe,Int.reduceNeg,Int.reduceAdd,Int.reduceSub,Eff.av,Eff.cells,Eff.cellsD]
    refine finv (v := (exec (dec b).x s r).av) (Eff.av_lt _ 0) ?_ _
    rw [← hpost]
    exact ⟨by rw [step, hb, if_pos he], rfl⟩
  · simp only [go_sem,Nat.reduceAdd,Nat.reduceSub,Nat.reduceMul,Nat.reduceEqDiff,Nat.reduceLeDiff,Nat.reduceLT,↓reduceIte,Int.reduceToNat,reduceCtorEq,Int.reduceLT,Int.reduceLE,Int.reduceGT,Int.reduceGE,Int.reduceEq,Int.reduceNe,Int.reduceNeg,Int.reduceAdd,Int.reduceSub,Dec.av,he,Ins.av,Ins.cells]
    exact finN ⟨r, 0, [], ⟨4, 0, ⟨0, 0⟩⟩, x0⟩ _ (by rw [step, hb, if_neg (by rw [he]; decide), if_neg (by rw [he]; decide)]) rfl
  · have e1 : iw .i64 ((b.length : Int) + 1) = ((b.length + 1 : Nat) : Int) := by rw [iw64] <;> omega
    simp only [go_sem,Nat.reduceAdd,Nat.reduceSub,Nat.reduceMul,Nat.reduceEqDiff,Nat.reduceLeDiff,Nat.reduceLT,↓reduceIte,Int.reduceToNat,reduceCtorEq,Int.reduceLT,Int.reduceLE,Int.reduceGT,Int.reduceGE,Int.reduceEq,Int.reduceNe,Int.reduceNeg,Int.reduceAdd,Int.reduceSub,Dec.av,he,Ins.av,Ins.cells,List.length_map,e1]
    refine rK_use (enters_of Tryz.func72 rfl (by decide)) (ACalls.pure_use (access_c s hs r.pc 4 (b.length + 1) (by omega) (by simp)) rfl rfl) ?_
    simp only [go_sem,Nat.reduceAdd,Nat.reduceSub,Nat.reduceMul,Nat.reduceEqDiff,Nat.reduceLeDiff,Nat.reduceLT,↓reduceIte,Int.reduceToNat,reduceCtorEq,Int.reduceLT,Int.reduceLE,Int.reduceGT,Int.reduceGE,Int.reduceEq,Int.reduceNe,Int.reduceNeg,Int.reduceAdd,Int.reduceSub]
    refine rK_use (enters_of Tryz.func71 rfl (by decide)) (ACalls.pure_use (mustF_c _) rfl rfl) ?_
    simp only [go_sem,Nat.reduceAdd,Nat.reduceSub,Nat.reduceMul,Nat.reduceEqDiff,Nat.reduceLeDiff,Nat.reduceLT,↓reduceIte,Int.reduceToNat,reduceCtorEq,Int.reduceLT,Int.reduceLE,Int.reduceGT,Int.reduceGE,Int.reduceEq,Int.reduceNe,Int.reduceNeg,Int.reduceAdd,Int.reduceSub,Flt.cells]
    exact finN ⟨r, 0, [], ⟨3, 0, s.flt r.pc 4 (b.length + 1) 0⟩, x0⟩ _ (by rw [step, hb, if_neg (by rw [he]; decide), if_pos he]) rfl
def eff0 : Eff := ⟨⟨0, 0, 0, 0, 0, 0, 0, 0, 0⟩, 0, [], ⟨0, 0, ⟨0, 0⟩⟩, x0⟩
theorem Exec_c (x : Ins) (hx : x.ok) (s : Sp) (hs : s.ok) (r : Rg) (hr : r.wf) :
    ACalls Tryz.prog 80 [x.av, s.av, r.av] [] (fun o H => o = .ret (.tuple [(exec x s r).av, iv 0]) ∧ H = []) := by
  refine ACalls.up ?_
  refine ACalls.intro (cs := []) (n := 26) Tryz.func80 rfl rfl rfl (by kernel_rfl) rfl ?_
  generalize hpost : (fun (o : Out) (H : Heap) => o = Out.ret (.tuple [(exec x s r).av, iv 0]) ∧ H = []) = post
  simp only [go_sem,Nat.reduceAdd,Nat.reduceSub,Nat.reduceMul,Nat.reduceEqDiff,Nat.reduceLeDiff,Nat.reduceLT,↓reduceIte,Int.reduceToNat,reduceCtorEq,Int.reduceLT,Int.reduceLE,Int.reduceGT,Int.reduceGE,Int.reduceEq,Int.reduceNe,Int.reduceNeg,Int.reduceAdd,Int.reduceSub,Sp.av,Rg.av,Rg.cells,Ins.av,Ins.cells]
  refine rK_use (enters_of Tryz.func61 rfl (by decide)) (ACalls.pure_use (mcheck_c s) rfl rfl) ?_
  rw [Sp.chk_ok hs]
  simp only [go_sem,Nat.reduceAdd,Nat.reduceSub,Nat.reduceMul,Nat.reduceEqDiff,Nat.reduceLeDiff,Nat.reduceLT,↓reduceIte,Int.reduceToNat,reduceCtorEq,Int.reduceLT,Int.reduceLE,Int.reduceGT,Int.reduceGE,Int.reduceEq,Int.reduceNe,Int.reduceNeg,Int.reduceAdd,Int.reduceSub]
  refine rK_use (enters_of Tryz.func51 rfl (by decide)) (ACalls.pure_use (icheck_c x) rfl rfl) ?_
  rw [Ins.chk, if_pos hx]
  simp only [go_sem,Nat.reduceAdd,Nat.reduceSub,Nat.reduceMul,Nat.reduceEqDiff,Nat.reduceLeDiff,Nat.reduceLT,↓reduceIte,Int.reduceToNat,reduceCtorEq,Int.reduceLT,Int.reduceLE,Int.reduceGT,Int.reduceGE,Int.reduceEq,Int.reduceNe,Int.reduceNeg,Int.reduceAdd,Int.reduceSub]
  refine rK_use (enters_of Tryz.func112 rfl (by decide)) (ACalls.pure_use (exec_c x hx s hs r hr) rfl (Eff.av_lt _ _)) ?_
  simp only [go_sem,Nat.reduceAdd,Nat.reduceSub,Nat.reduceMul,Nat.reduceEqDiff,Nat.reduceLeDiff,Nat.reduceLT,↓reduceIte,Int.reduceToNat,reduceCtorEq,Int.reduceLT,Int.reduceLE,Int.reduceGT,Int.reduceGE,Int.reduceEq,Int.reduceNe,Int.reduceNeg,Int.reduceAdd,Int.reduceSub,Eff.av,Eff.cells,Eff.cellsD]
  refine finv (v := .tuple [(exec x s r).av, iv 0]) (by simp [AV.lt, ltL, Eff.av_lt]) ?_ _
  rw [← hpost]
  exact ⟨rfl, rfl⟩
theorem Step_c (s : Sp) (hs : s.ok) (r : Rg) (hr : r.wf) :
    ACalls Tryz.prog 35 [s.av, r.av] [] (fun o H => o = .ret (.tuple [(step s r).av, iv 0]) ∧ H = []) := by
  refine ACalls.up ?_
  refine ACalls.intro (cs := []) (n := 16) Tryz.func35 rfl rfl rfl (by kernel_rfl) rfl ?_
  generalize hpost : (fun (o : Out) (H : Heap) => o = Out.ret (.tuple [(step s r).av, iv 0]) ∧ H = []) = post
  simp only [go_sem,Nat.reduceAdd,Nat.reduceSub,Nat.reduceMul,Nat.reduceEqDiff,Nat.reduceLeDiff,Nat.reduceLT,↓reduceIte,Int.reduceToNat,reduceCtorEq,Int.reduceLT,Int.reduceLE,Int.reduceGT,Int.reduceGE,Int.reduceEq,Int.reduceNe,Int.reduceNeg,Int.reduceAdd,Int.reduceSub,Sp.av,Rg.av,Rg.cells]
  refine rK_use (enters_of Tryz.func61 rfl (by decide)) (ACalls.pure_use (mcheck_c s) rfl rfl) ?_
  rw [Sp.chk_ok hs]
  simp only [go_sem,Nat.reduceAdd,Nat.reduceSub,Nat.reduceMul,Nat.reduceEqDiff,Nat.reduceLeDiff,Nat.reduceLT,↓reduceIte,Int.reduceToNat,reduceCtorEq,Int.reduceLT,Int.reduceLE,Int.reduceGT,Int.reduceGE,Int.reduceEq,Int.reduceNe,Int.reduceNeg,Int.reduceAdd,Int.reduceSub]
  refine rK_use (enters_of Tryz.func75 rfl (by decide)) (ACalls.pure_use (step_c s hs r hr) rfl (Eff.av_lt _ _)) ?_
  simp only [go_sem,Nat.reduceAdd,Nat.reduceSub,Nat.reduceMul,Nat.reduceEqDiff,Nat.reduceLeDiff,Nat.reduceLT,↓reduceIte,Int.reduceToNat,reduceCtorEq,Int.reduceLT,Int.reduceLE,Int.reduceGT,Int.reduceGE,Int.reduceEq,Int.reduceNe,Int.reduceNeg,Int.reduceAdd,Int.reduceSub,Eff.av,Eff.cells,Eff.cellsD]
  refine finv (v := .tuple [(step s r).av, iv 0]) (by simp [AV.lt, ltL, Eff.av_lt]) ?_ _
  rw [← hpost]
  exact ⟨rfl, rfl⟩
end Go.Proofs.YtfiflailjbmlpaaGreatDoor
set_option linter.unusedVariables false
set_option linter.unusedSimpArgs false
namespace Go.AM
mutual
def AV.bare : AV → Bool
  | .view _ _ xs => xs.isEmpty
  | .iface _ v => AV.bare v
  | .agg cs => bareL cs
  | .tuple vs => bareL vs
  | .any | .bool _ | .int _ _ | .str _ | .nilptr | .nilchan | .nilmap | .nilfunc | .nilif => true
  | .ptr _ _ _ | .cptr _ _ | .sl _ _ _ _ | .rsl _ _ _ _ | .chan _ | .yfn _ | .map _ | .func _ _ _ => false
def bareL : List AV → Bool
  | [] => true
  | x :: xs => AV.bare x && bareL xs
end
theorem bareL_get : ∀ {xs : List AV}, bareL xs = true → ∀ {k : Nat} {x : AV}, xs[k]? = some x → x.bare = true
  | [], _, k, x, h => by simp at h
  | y :: ys, hl, k, x, h => by
    simp only [bareL, Bool.and_eq_true] at hl
    cases k with
    | zero => simp at h; subst h; exact hl.1
    | succ k => exact bareL_get hl.2 (by simpa using h)
theorem VR.bare {sn sn' : Snap} {ρ : Env} {x : AV} {v : Value} (h : VR sn ρ x v) : ∀ {ρ' : Env}, x.bare = true → VR sn' ρ' x v := by
  induction h with
  | any => intro _ _; exact .any _ _
  | bool => intro _ _; exact .bool _ _
  | int => intro _ _; exact .int _ _ _
  | str => intro _ _; exact .str _ _
  | nilptr => intro _ _; exact .nilptr _
  | ptr ρ r i j p h => intro _ hf; simp [AV.bare] at hf
  | cptr => intro _ hf; simp [AV.bare] at hf
  | view ρ full sz xs a b o c vs hl hm hf ha hz hc ho hr ih =>
    intro ρ' hfl
    have : xs = [] := by simpa [AV.bare] using hfl
    subst this
    exact .view _ full sz [] a b o c vs hl hm hf ha (by simp) (by simp) (by simp) (by simp)
  | sl => intro _ hf; simp [AV.bare] at hf
  | sl0 => intro _ hf; simp [AV.bare] at hf
  | rsl => intro _ hf; simp [AV.bare] at hf
  | nilchan => intro _ _; exact .nilchan _
  | chan => intro _ hf; simp [AV.bare] at hf
  | yfn => intro _ hf; simp [AV.bare] at hf
  | nilmap => intro _ _; exact .nilmap _
  | map => intro _ hf; simp [AV.bare] at hf
  | nilfunc => intro _ _; exact .nilfunc _
  | func => intro _ hf; simp [AV.bare] at hf
  | nilif => intro _ _; exact .nilif _
  | iface ρ t x y h ih => intro ρ' hf; simp only [AV.bare] at hf; exact .iface _ _ _ _ (ih hf)
  | agg ρ xs ys hs h ih => intro ρ' hf; simp only [AV.bare] at hf; exact .agg _ _ _ hs (fun k x y hx hy => ih k x y hx hy (bareL_get hf hx))
  | tuple ρ xs ys hs h ih => intro ρ' hf; simp only [AV.bare] at hf; exact .tuple _ _ _ hs (fun k x y hx hy => ih k x y hx hy (bareL_get hf hx))
theorem ACalls.reads {P : Program} {f : FuncId} {args args' : List AV} {v : AV} {H : Heap} (hv : v.bare = true) (hc : ACalls P f args' [] (fun o H => o = .ret v ∧ H = []))
    (ha : ∀ (sn : Snap) (ρ : Env) (w : World) (vs : Array Value), Rel sn ρ H w → VRs sn ρ args vs.toList → VRs (snapAll w) noEnv args' vs.toList) : ACalls P f args H (fun o H2 => o = .ret v ∧ H2 = H) := by
  intro sn ρ w vs hR hvs
  refine (hc (snapAll w) noEnv w vs (rel_all (hR.gl.mono hR.snap)) (ha sn ρ w vs hR hvs)).mono ?_
  rintro e w' ⟨sn', ρ', H', out, o1, R', E, rfl, rfl⟩
  have fr : ∀ b o, w.heap[b]? = some o → w'.heap[b]? = some o := fun b o hb => by
    rw [E.frame b (Array.getElem?_eq_some_iff.1 hb).1 (fun ⟨r, blk, p, h, _⟩ => by simp at h), hb]
  refine ⟨sn, ρ, H, .ret v, ?_, ⟨hR.gl, fun b o h => fr b o (hR.snap b o h), fun r blk p h1 h2 h3 => ?_, hR.inj, hR.top⟩, ⟨fun _ _ h => h, fun _ _ => rfl, Nat.le_refl _, fun _ _ h => h, E.below, E.os, E.tape, E.output, fun b hb _ => E.frame b hb (fun ⟨r, blk, p, h, _⟩ => by simp at h), fun b h => absurd rfl h, fun b h => .inr h⟩, rfl, rfl⟩
  · cases e with
    | returned cv => exact VR.bare (show VR sn' ρ' v cv from o1) hv
    | _ => exact o1.elim
  · obtain ⟨g1, o, g2, g3⟩ := hR.own r blk p h1 h2 h3
    exact ⟨g1, o, fr _ _ g2, g3⟩
theorem ACalls.lend {P : Program} {f : FuncId} {args : List AV} {v : AV} {H : Heap} (r : Nat) {sz : Nat} {xs : List (List AV)} (hv : v.bare = true) (h1 : H[r]? = some (.rows sz xs)) (h2 : ∀ row ∈ xs, ∀ x ∈ row, x.pure = true) (h3 : fzOkL r xs.length args) (hp : ltL 0 (fzL r sz xs args) = true)
    (hc : ACalls P f (fzL r sz xs args) [] (fun o H => o = .ret v ∧ H = [])) : ACalls P f args H (fun o H2 => o = .ret v ∧ H2 = H) := by
  refine ACalls.reads hv hc fun sn ρ w vs hR hvs => ?_
  refine ⟨by rw [fzL_map, List.length_map]; exact hvs.1, fun k x y hx hy => ?_⟩
  have hx' := hx
  rw [fzL_map, List.getElem?_map, Option.map_eq_some_iff] at hx
  obtain ⟨z, hz, rfl⟩ := hx
  exact (VR.fz hR h1 h2 (sn' := snapAll w) hR.snap (fun p _ => rfl) (hvs.2 k z y hz hy) rfl (fzOkL_get h3 hz)).pure (ltL_get hp hx')
theorem ACalls.fresh {P : Program} {f : FuncId} {args : List AV} {v v' : AV} {b : Blk} {H : Heap} (hc : ACalls P f args [] (fun o H => o = .ret v ∧ H = [b])) (ha : ltL 0 args = true) (hb : b.lt 0) (hv : v.ren (pi [] H.length) = v') : ACalls P f args H (fun o H2 => o = .ret v' ∧ H2 = H ++ [b]) := by
  refine hc.useE [] v' (H ++ [b]) List.nodup_nil rfl (by simp) rfl (renL_pure' ha).symm hv ?_
  simp [patch, setMany, bren_lt (m := 0) (fun k hk => absurd hk (Nat.not_lt_zero k)) hb]
end Go.AM
set_option maxRecDepth 100000
set_option linter.unusedVariables false
set_option linter.unusedSimpArgs false
namespace Go.Proofs.YtfiflailjbmlpaaGreatDoor
open Go.AM
instance (n : Int) : Decidable (I64 n) := by unfold I64; exact inferInstance
theorem wf0 {r : Rg} (h : (r.pc :: r.list).all (fun x => decide (I64 x)) = true) : r.wf := by
  simp only [List.all_eq_true, decide_eq_true_eq] at h
  exact ⟨fun x hx => h x (List.mem_cons_of_mem _ hx), h _ (List.mem_cons_self ..)⟩
end Go.Proofs.YtfiflailjbmlpaaGreatDoor
set_option maxRecDepth 100000
set_option linter.unusedVariables false
set_option linter.unusedSimpArgs false
namespace Go.Proofs.YtfiflailjbmlpaaGreatDoor
open Go.AM
theorem ops35 {op : Int} (h : isOp op = true) : op = 76 ∨ op = 1 ∨ op = 2 ∨ op = 3 ∨ op = 4 ∨ op = 5 ∨ op = 6 ∨ op = 7 ∨ op = 8 ∨ op = 9 ∨ op = 10 ∨ op = 11 ∨ op = 12 ∨ op = 13 ∨ op = 14 ∨ op = 15 ∨ op = 16 ∨ op = 17 ∨ op = 18 ∨ op = 19 ∨ op = 20 ∨ op = 21 ∨ op = 22 ∨ op = 23 ∨ op = 24 ∨ op = 25 ∨ op = 26 ∨ op = 27 ∨ op = 28 ∨ op = 29 ∨ op = 30 ∨ op = 31 ∨ op = 32 ∨ op = 33 ∨ op = 34 := by
  rcases opcases h with h | ⟨k, h1, h2, h3⟩ <;> omega
theorem exec_f {x : Ins} {s : Sp} {r : Rg} (hf : ¬ (ffault s (foot x r)).kind = 0) : exec x s r = ⟨r, 0, [], ⟨3, 0, ffault s (foot x r)⟩, x⟩ := by
  unfold exec effect
  rw [if_pos hf]
  rfl
end Go.Proofs.YtfiflailjbmlpaaGreatDoor
set_option maxRecDepth 100000
set_option linter.unusedVariables false
set_option linter.unusedSimpArgs false
namespace Go.Proofs.YtfiflailjbmlpaaGreatDoor
open Go.AM
def Rg.at' (r : Rg) (v : Int) : Rg := { r with pc := v }
def Eff.at' (e : Eff) (v : Int) : Eff := { e with rg := e.rg.at' v }
theorem eff_ok {x : Ins} {s : Sp} {r : Rg} (hf : (ffault s (foot x r)).kind = 0) : effect x s r =
    (if isAlu x.op = true then (match alu x.op (r.get x.a) (r.get x.b) with
    | none => .tr ⟨5, 0, ⟨0, 0⟩⟩ (Pr.p1 x s r)
    | some v => .ok ((Pr.p1 x s r).setA v) [])
  else if 21 ≤ x.op ∧ x.op ≤ 25 then .ok (if taken x r = true then (Pr.p1 x s r).toPc (iw .i64 ((Pr.p1 x s r).next + x.imm)) else Pr.p1 x s r) []
  else if x.op = 26 then .ok ((Pr.p1 x s r).toPc (r.get x.a)) []
  else tabR (Pr.p1 x s r)) := by
  unfold effect
  rw [if_neg (by simp [hf])]
  all_goals (cases alu x.op (r.get x.a) (r.get x.b) <;> rfl)
end Go.Proofs.YtfiflailjbmlpaaGreatDoor
set_option maxRecDepth 100000
set_option linter.unusedVariables false
set_option linter.unusedSimpArgs false
namespace Go.Proofs.YtfiflailjbmlpaaGreatDoor
open Go.AM
def setL (l : List Int) (k : Nat) : List Int := ((List.range k).filter fun r : Nat => decide ((r : Int) ∈ l)).map fun r : Nat => (r : Int)
theorem mem_setL {l : List Int} {k : Nat} {n : Int} : n ∈ setL l k ↔ n ∈ l ∧ 0 ≤ n ∧ n < k := by
  simp only [setL, List.mem_map, List.mem_filter, List.mem_range, decide_eq_true_eq]
  constructor
  · rintro ⟨r, ⟨h1, h2⟩, rfl⟩; exact ⟨h2, by omega, by omega⟩
  · rintro ⟨h1, h2, h3⟩; exact ⟨n.toNat, ⟨by omega, by rwa [Int.toNat_of_nonneg h2]⟩, Int.toNat_of_nonneg h2⟩
def wrL (x : Ins) : List Int :=
  if x.ok then
    if x.op = 2 ∨ x.op = 3 ∨ x.op = 4 ∨ x.op = 32 ∨ x.op = 16 ∨ x.op = 17 ∨ x.op = 18 ∨ x.op = 34 then setL [x.a] 8
    else if x.op = 27 ∨ x.op = 28 ∨ x.op = 30 ∨ x.op = 29 then setL [7] 8
    else if x.op = 31 then setL [x.a, 7] 8
    else if 5 ≤ x.op ∧ x.op ≤ 15 then setL [x.a] 8 else []
  else []
def inL (l : List Int) (n : Int) : Bool := decide (n ∈ l)
end Go.Proofs.YtfiflailjbmlpaaGreatDoor
set_option maxRecDepth 100000
set_option linter.unusedVariables false
set_option linter.unusedSimpArgs false
namespace Go.Proofs.YtfiflailjbmlpaaGreatDoor
open Go.AM
theorem stL_ne (n : Nat) (v : Int) : stL (n + 1) v ≠ [] := fun h => by
  have := congrArg List.length h
  rw [stL_len] at this
  simp at this
structure Frame (x : Ins) (r : Rg) (e : Eff) : Prop where
  reg : ∀ i : Nat, i < 8 → (¬ e.trap.kind = 0 ∨ inL (wrL x) i = false) → e.rg.get i = r.get i
  pc : ¬ e.trap.kind = 0 → ¬ e.trap.kind = 1 → e.rg.pc = r.pc
  dat : ¬ e.trap.kind = 0 → e.data = []
  pos0 : e.data = [] → e.pos = 0
  acc : ¬ e.data = [] → ∃ a ∈ foot x r, a.write = true ∧ a.pos = e.pos ∧ a.size = e.data.length
theorem in1 {a i : Int} (h : inL (setL [a] 8) i = false) (h0 : 0 ≤ i) (h8 : i < 8) : ¬ a = i := by
  simp [inL, mem_setL] at h
  omega
theorem in2 {a b i : Int} (h : inL (setL [a, b] 8) i = false) (h0 : 0 ≤ i) (h8 : i < 8) : ¬ a = i ∧ ¬ b = i := by
  simp [inL, mem_setL] at h
  omega
theorem get_set {r : Rg} {a v : Int} {i : Nat} (hi : i < 8) (h : ¬ a = i) : (r.set a v).get i = r.get i := by
  have : i = 0 ∨ i = 1 ∨ i = 2 ∨ i = 3 ∨ i = 4 ∨ i = 5 ∨ i = 6 ∨ i = 7 := by omega
  rcases this with rfl | rfl | rfl | rfl | rfl | rfl | rfl | rfl <;> simp at h <;> simp [Rg.get, Rg.set, Rg.list, h]
theorem frame {x : Ins} {s : Sp} {r : Rg} (hx : x.ok) (hr : r.wf) : Frame x r (exec x s r) := by
  by_cases hf : (ffault s (foot x r)).kind = 0
  · have ho := ops35 hx.op
    have hw : wrL x = _ := if_pos hx
    have him := swap_imm hx
    unfold exec
    rw [eff_ok hf]
    obtain ⟨op, a, b, imm⟩ := x
    simp only at ho
    cases hal : alu op (r.get a) (r.get b)
    all_goals cases htk : taken ⟨op, a, b, imm⟩ r
    all_goals rcases ho with rfl | rfl | rfl | rfl | rfl | rfl | rfl | rfl | rfl | rfl | rfl | rfl | rfl | rfl | rfl | rfl | rfl | rfl | rfl | rfl | rfl | rfl | rfl | rfl | rfl | rfl | rfl | rfl | rfl | rfl | rfl | rfl | rfl | rfl | rfl
    all_goals simp [isAlu, tabR, Res.eff, Pr.setA, Pr.toPc, Pr.p1, Pr.start, Pr.set7, hal, htk] at hw him ⊢
    all_goals refine ⟨fun i hi h => ?_, fun h1 h2 => ?_, fun h => ?_, fun h => ?_, fun h => ?_⟩
    all_goals first
      | rfl
      | (simp at h; done)
      | (simp at h1; done)
      | (simp at h2; done)
      | (simp [hw] at h
         exact get_set hi (in1 h (by omega) (by omega)))
      | (simp [hw] at h
         exact (get_set hi (in2 h (by omega) (by omega)).1).trans (get_set (a := 7) (r := { r with pc := _ }) hi (in2 h (by omega) (by omega)).2))
      | (simp [stL_ne] at h; done)
      | (simp [foot, stL_len]; done)
      | (simp [foot, stL_len, him]
         have h1 := hr.get b
         unfold I64 at h1
         exact iw64 (by omega) (by omega))
      | skip
    all_goals skip
  · rw [exec_f hf]
    exact ⟨fun i _ _ => rfl, fun _ _ => rfl, fun _ => rfl, fun _ => rfl, fun h => absurd rfl h⟩
end Go.Proofs.YtfiflailjbmlpaaGreatDoor
set_option maxRecDepth 100000
set_option linter.unusedVariables false
set_option linter.unusedSimpArgs false
namespace Go.Proofs.YtfiflailjbmlpaaGreatDoor
open Go.AM
theorem Dec.bare (d : Dec) : d.av.bare = true := rfl
theorem fet_zero (s : Sp) (pos : Int) (i : Nat) : s.fet pos 0 i = [] := rfl
theorem fet_succ (s : Sp) (pos : Int) (m i : Nat) : s.fet pos (m + 1) i = if s.has (iw .i64 (pos + i)) = true ∧ s.pm (iw .i64 (pos + i)) = 4 then (s.byt[(iw .i64 (pos + i)).toNat]?).getD 0 :: s.fet pos m (i + 1) else [] := rfl
end Go.Proofs.YtfiflailjbmlpaaGreatDoor
set_option maxRecDepth 100000
set_option linter.unusedVariables false
set_option linter.unusedSimpArgs false
namespace Go.Proofs.YtfiflailjbmlpaaGreatDoor
open Go.AM
def Sp.put (s : Sp) (k : Nat) (c : UInt8) : Sp := ⟨s.perm, s.byt.set k c⟩
theorem put_has (s : Sp) (k : Nat) (c : UInt8) (x : Int) : (s.put k c).has x = s.has x := by simp [Sp.has, Sp.put]
theorem put_pm (s : Sp) (k : Nat) (c : UInt8) (x : Int) : (s.put k c).pm x = s.pm x := rfl
theorem put_ok {s : Sp} {k : Nat} {c : UInt8} (h : s.ok) : (s.put k c).ok := ⟨h.p32, by simp [Sp.put, h.len], h.all⟩
theorem byt_len {s : Sp} (h : s.ok) : s.byt.length ≤ 2048 := by have := h.p32; have := h.len; omega
theorem fet_put (s : Sp) (hs : s.ok) (k : Nat) (c : UInt8) (pos : Int) (h0 : 0 ≤ pos) (h1 : pos ≤ 2048) : ∀ (m i : Nat), i + m ≤ 12 →
    (s.put k c).fet pos m i = if pos + i ≤ k then (s.fet pos m i).set ((k : Int) - pos - i).toNat c else s.fet pos m i
  | 0, i, _ => by simp [fet_zero]
  | m + 1, i, hm => by
    have e : iw .i64 (pos + i) = pos + i := iw64 (by omega) (by omega)
    rw [fet_succ, fet_succ, put_has, put_pm, e]
    by_cases hc : s.has (pos + i) = true ∧ s.pm (pos + i) = 4
    · rw [if_pos hc, if_pos hc, fet_put s hs k c pos h0 h1 m (i + 1) (by omega)]
      obtain ⟨b, b1, b2, b3⟩ := Sp.byt_at hc.1
      have hb : (s.put k c).byt[(pos + i).toNat]? = if k = (pos + i).toNat then some c else some b := by
        simp only [Sp.put, List.getElem?_set]
        by_cases hk : k = (pos + i).toNat
        · rw [if_pos hk, if_pos hk, if_pos (by omega)]
        · rw [if_neg hk, if_neg hk, b1]
      rw [hb, b1]
      rcases Int.lt_trichotomy (k : Int) (pos + i) with hk | hk | hk
      · rw [if_neg (by omega), if_neg (by omega), if_neg (by omega)]
      · rw [if_pos (by omega), if_neg (by omega), if_pos (by omega), show ((k : Int) - pos - i).toNat = 0 by omega]
        rfl
      · obtain ⟨t, ht⟩ : ∃ t, ((k : Int) - pos - i).toNat = t + 1 := ⟨((k : Int) - pos - i).toNat - 1, by omega⟩
        rw [if_neg (by omega), if_pos (by omega), if_pos (by omega), ht, show ((k : Int) - pos - ((i + 1 : Nat) : Int)).toNat = t by omega]
        rfl
    · rw [if_neg hc, if_neg hc]; simp
theorem scan_set (wide : Bool) (b : List UInt8) (n j : Nat) (c : UInt8) : ∀ (m i : Nat), j < i ∨ i + m ≤ j → scan wide (b.set j c) n m i = scan wide b n m i
  | 0, _, _ => rfl
  | m + 1, i, h => by
    rw [scan, scan, List.getElem?_set_ne (by omega), scan_set wide b n j c m (i + 1) (by omega)]
theorem scan_bad (wide : Bool) (b : List UInt8) (n j : Nat) (c : UInt8) (hc : 128 ≤ (c.toNat : Int)) : ∀ (m i : Nat), scan wide b n m i = 20 → scan wide (b.set j c) n m i = 20
  | 0, _, h => by cases h
  | m + 1, i, h => by
    rw [scan] at h ⊢
    by_cases hj : j = i
    · subst hj
      cases hb : b[j]? with
      | none => rw [hb] at h; cases h
      | some d =>
        rw [List.getElem?_set_self (List.getElem?_eq_some_iff.1 hb).1]
        simp only
        rw [if_pos (.inl hc)]
    · rw [List.getElem?_set_ne hj]
      cases hb : b[i]? with
      | none => rw [hb] at h; cases h
      | some d =>
        rw [hb] at h
        simp only at h ⊢
        split at h
        · rename_i h1; rw [if_pos h1]
        · rename_i h1; rw [if_neg h1]; exact scan_bad wide b n j c hc m (i + 1) h
theorem take_set {α : Type} {l : List α} {n j : Nat} {c : α} (h : n ≤ j) : (l.set j c).take n = l.take n := by
  apply List.ext_getElem?
  intro i
  rw [List.getElem?_take, List.getElem?_take]
  split
  · rw [List.getElem?_set_ne (by omega)]
  · rfl
theorem decB_set {b : List UInt8} {op a b' : Int} {k j : Nat} {c : UInt8} (hk : k ≤ flen (kform op)) (hj : flen (kform op) ≤ j) : decB (b.set j c) op a b' k = decB b op a b' k := by
  unfold decB
  rw [scan_set _ _ _ _ _ _ _ (.inr (by omega)), take_set hj]
theorem decB_bad {b : List UInt8} {op a b' : Int} {k j : Nat} {c : UInt8} (hc : 128 ≤ (c.toNat : Int)) (h : (decB b op a b' k).e = 20) : (decB (b.set j c) op a b' k).e = 20 := by
  unfold decB at h ⊢
  split at h
  · cases h
  · rename_i hs
    have h2 := scan_bad (decide (kform op = 3)) b (flen (kform op)) j c hc _ _ (show scan _ b _ _ k = 20 from h)
    rw [if_neg (by rw [h2]; decide)]
    exact h2
theorem decB_n {b : List UInt8} {op a b' : Int} {k : Nat} (h : (decB b op a b' k).e = 0) : (decB b op a b' k).n = flen (kform op) := by
  unfold decB at h ⊢
  split
  · rfl
  · rename_i hs; rw [if_neg hs] at h; exact absurd h hs
theorem dec_set {b : List UInt8} {j : Nat} {c : UInt8} (he : (dec b).e = 0) (hj : (dec b).n ≤ j) : dec (b.set j c) = dec b := by
  rcases b with _ | ⟨b0, rest⟩
  · cases he
  rw [dec_cons] at he hj
  by_cases ho : isOp ((b0.toNat : Int) - 128) = true
  · rw [if_pos ho] at he hj
    have hsp := flen_split (kform ((b0.toNat : Int) - 128))
    by_cases hA : hasA (kform ((b0.toNat : Int) - 128)) = true
    · rw [if_pos hA] at he hj hsp
      rcases rest with _ | ⟨b1, rest⟩
      · cases he
      · simp only at he hj
        by_cases hB : hasB (kform ((b0.toNat : Int) - 128)) = true
        · rw [if_pos hB] at he hj
          by_cases h64 : 64 ≤ (b1.toNat : Int)
          · rw [if_pos h64] at he; cases he
          · rw [if_neg h64] at he hj
            rw [decB_n he] at hj
            obtain ⟨t, rfl⟩ : ∃ t, j = t + 2 := ⟨j - 2, by omega⟩
            show dec (b0 :: b1 :: rest.set t c) = _
            rw [dec_cons, dec_cons, if_pos ho, if_pos ho, if_pos hA, if_pos hA]
            simp only
            rw [if_pos hB, if_pos hB, if_neg h64, if_neg h64]
            exact decB_set (b := b0 :: b1 :: rest) (j := t + 2) (by omega) hj
        · rw [if_neg hB] at he hj
          by_cases h64 : 8 ≤ (b1.toNat : Int)
          · rw [if_pos h64] at he; cases he
          · rw [if_neg h64] at he hj
            rw [decB_n he] at hj
            obtain ⟨t, rfl⟩ : ∃ t, j = t + 2 := ⟨j - 2, by omega⟩
            show dec (b0 :: b1 :: rest.set t c) = _
            rw [dec_cons, dec_cons, if_pos ho, if_pos ho, if_pos hA, if_pos hA]
            simp only
            rw [if_neg hB, if_neg hB, if_neg h64, if_neg h64]
            exact decB_set (b := b0 :: b1 :: rest) (j := t + 2) (by omega) hj
    · rw [if_neg hA] at he hj hsp
      rw [decB_n he] at hj
      obtain ⟨t, rfl⟩ : ∃ t, j = t + 1 := ⟨j - 1, by omega⟩
      show dec (b0 :: rest.set t c) = _
      rw [dec_cons, dec_cons, if_pos ho, if_pos ho, if_neg hA, if_neg hA]
      exact decB_set (b := b0 :: rest) (j := t + 1) (by omega) hj
  · rw [if_neg ho] at he; cases he
theorem dec_bad {b : List UInt8} {j : Nat} {c : UInt8} (hc : 128 ≤ (c.toNat : Int)) (h1 : 1 ≤ j) (he : (dec b).e = 20) : (dec (b.set j c)).e = 20 := by
  rcases b with _ | ⟨b0, rest⟩
  · cases he
  obtain ⟨t, rfl⟩ : ∃ t, j = t + 1 := ⟨j - 1, by omega⟩
  show (dec (b0 :: rest.set t c)).e = 20
  rw [dec_cons] at he ⊢
  by_cases ho : isOp ((b0.toNat : Int) - 128) = true
  · rw [if_pos ho] at he ⊢
    by_cases hA : hasA (kform ((b0.toNat : Int) - 128)) = true
    · rw [if_pos hA] at he ⊢
      rcases rest with _ | ⟨b1, rest⟩
      · cases he
      · simp only at he
        cases t with
        | zero =>
          simp only [List.set_cons_zero]
          by_cases hB : hasB (kform ((b0.toNat : Int) - 128)) = true
          · rw [if_pos hB, if_pos (by omega)]; rfl
          · rw [if_neg hB, if_pos (by omega)]; rfl
        | succ t =>
          simp only [List.set_cons_succ]
          by_cases hB : hasB (kform ((b0.toNat : Int) - 128)) = true
          · rw [if_pos hB] at he ⊢
            by_cases h64 : 64 ≤ (b1.toNat : Int)
            · rw [if_pos h64]; rfl
            · rw [if_neg h64] at he ⊢
              exact decB_bad (b := b0 :: b1 :: rest) (j := t + 2) hc he
          · rw [if_neg hB] at he ⊢
            by_cases h64 : 8 ≤ (b1.toNat : Int)
            · rw [if_pos h64]; rfl
            · rw [if_neg h64] at he ⊢
              exact decB_bad (b := b0 :: b1 :: rest) (j := t + 2) hc he
    · rw [if_neg hA] at he ⊢
      exact decB_bad (b := b0 :: rest) (j := t + 1) hc he
  · rw [if_neg ho]; rfl
end Go.Proofs.YtfiflailjbmlpaaGreatDoor
set_option maxRecDepth 100000
set_option linter.unusedVariables false
set_option linter.unusedSimpArgs false
namespace Go.Proofs.YtfiflailjbmlpaaGreatDoor
open Go.AM
theorem clone_int_c (l : List Int) (full : Bool) (hl : l.length ≤ 1000) : ACalls Tryz.prog 105 [.view full 1 (l.map r1)] [] (fun o H => o = .ret (.view false 1 (l.map r1)) ∧ H = []) := by
  refine ACalls.up ?_
  refine ACalls.intro (cs := []) (n := 8) Tryz.func105 rfl rfl rfl (by kernel_rfl) rfl ?_
  simp only [go_sem,Nat.reduceAdd,Nat.reduceSub,Nat.reduceMul,Nat.reduceEqDiff,Nat.reduceLeDiff,Nat.reduceLT,↓reduceIte,Int.reduceToNat,reduceCtorEq,rK_ndb]
  intro b hb
  refine condD_split (fun e => ?_) (fun e => ?_)
  · have hl0 : l = [] := by
      rw [List.length_map] at hb
      rcases l with _ | ⟨x, l⟩
      · rfl
      · have := hb (by simp); rw [e] at this; cases this
    subst hl0
    simp only [go_sem,Nat.reduceAdd,Nat.reduceSub,Nat.reduceMul,Nat.reduceEqDiff,Nat.reduceLeDiff,Nat.reduceLT,↓reduceIte,Int.reduceToNat,reduceCtorEq]
    exact .le (.ret (.nil _ _ 0 1 (by simp))) .nil (.done ⟨rfl, rfl⟩)
  · simp only [go_sem,Nat.reduceAdd,Nat.reduceSub,Nat.reduceMul,Nat.reduceEqDiff,Nat.reduceLeDiff,Nat.reduceLT,↓reduceIte,Int.reduceToNat,reduceCtorEq,List.length_map]
    refine ⟨by omega, ?_⟩
    simp only [go_sem,Nat.reduceAdd,Nat.reduceSub,Nat.reduceMul,Nat.reduceEqDiff,Nat.reduceLeDiff,Nat.reduceLT,↓reduceIte,Int.reduceToNat,reduceCtorEq]
    refine .fz 1 1 (l.map r1) rfl (r1_pure l) (by simp [Out.fzOk, AV.fzOk]) (by simp [Blk.fzOk]) ?_
    refine .gc 0 (Nat.le_refl _) (Nat.zero_le _) (by simp [Out.fz, AV.fz, Out.lt, AV.lt]) (by simp) (.done ⟨?_, rfl⟩)
    simp [Out.fz, AV.fz]
    rw [List.take_of_length_le (by simp)]
def spB (p : AV) (b : AV) : Blk := .rows 2 [[p, b]]
end Go.Proofs.YtfiflailjbmlpaaGreatDoor
set_option maxRecDepth 100000
set_option linter.unusedVariables false
set_option linter.unusedSimpArgs false
namespace Go.Proofs.YtfiflailjbmlpaaGreatDoor
open Go.AM
def Sp.wr (s : Sp) (pos : Nat) (b : List UInt8) : Sp := ⟨s.perm, s.byt.take pos ++ b ++ s.byt.drop (pos + b.length)⟩
end Go.Proofs.YtfiflailjbmlpaaGreatDoor
set_option maxRecDepth 100000
set_option linter.unusedVariables false
set_option linter.unusedSimpArgs false
namespace Go.Proofs.YtfiflailjbmlpaaGreatDoor
open Go.AM
structure Fits (s : Sp) (e : Eff) : Prop where
  len : e.data.length ≤ 8
  pos : e.data.length = 0 → e.pos = 0
  trap : 0 < e.data.length → e.trap.kind = 0
  flt : (s.flt e.pos 2 e.data.length 0).kind = 0
def sp0 : Sp := ⟨[], []⟩
open Classical in
noncomputable def applyR (s : Sp) (e : Eff) : Sp × Int := if s.ok then (if Fits s e then (s.wr e.pos.toNat e.data, 0) else (sp0, 40)) else (sp0, 30)
end Go.Proofs.YtfiflailjbmlpaaGreatDoor
set_option maxRecDepth 100000
set_option linter.unusedVariables false
set_option linter.unusedSimpArgs false
namespace Go.Proofs.YtfiflailjbmlpaaGreatDoor
open Go.AM
theorem scan_small (wide : Bool) (b : List UInt8) (n : Nat) : ∀ (m i : Nat), scan wide b n m i ≠ 20 → ∀ j, i ≤ j → j < i + m → ∀ d, b[j]? = some d → (d.toNat : Int) < 128
  | 0, i, _, j, h1, h2, d, _ => by omega
  | m + 1, i, h, j, h1, h2, d, hd => by
    rw [scan] at h
    cases hb : b[i]? with
    | none =>
      have := List.getElem?_eq_none_iff.1 hb
      have := (List.getElem?_eq_some_iff.1 hd).1
      omega
    | some c =>
      rw [hb] at h
      simp only at h
      split at h
      · exact absurd rfl h
      · rename_i hc
        rcases Nat.eq_or_lt_of_le h1 with rfl | h3
        · rw [hb] at hd
          cases hd
          omega
        · exact scan_small wide b n m (i + 1) h j h3 (by omega) d hd
theorem scan_none (wide : Bool) (b : List UInt8) (n : Nat) : ∀ (m i : Nat), scan wide b n m i = 21 → b.length < i + m
  | 0, i, h => by cases h
  | m + 1, i, h => by
    rw [scan] at h
    cases hb : b[i]? with
    | none => have := List.getElem?_eq_none_iff.1 hb; omega
    | some c =>
      rw [hb] at h
      simp only at h
      split at h
      · cases h
      · have := scan_none wide b n m (i + 1) h; omega
theorem decB_small {b : List UInt8} {op a b' : Int} {k : Nat} (h : (decB b op a b' k).e ≠ 20) (j : Nat) (hk : k ≤ j) (hj : j < (decB b op a b' k).n ∨ (decB b op a b' k).e = 21) (d : UInt8) (hd : b[j]? = some d) : (d.toNat : Int) < 128 := by
  unfold decB at h hj
  have hl := (List.getElem?_eq_some_iff.1 hd).1
  split at h
  · rename_i h0
    rw [if_pos h0] at hj
    have hj2 : j < flen (kform op) := by
      rcases hj with hj | hj
      · exact hj
      · exact absurd (show (0 : Int) = 21 from hj) (by decide)
    exact scan_small _ b _ _ k (by rw [h0]; decide) j hk (by omega) d hd
  · rename_i h0
    rw [if_neg h0] at hj
    have h1 : scan (decide (kform op = 3)) b (flen (kform op)) (flen (kform op) - k) k ≠ 20 := h
    rcases hj with hj | hj
    · exact absurd hj (Nat.not_lt_zero _)
    · have := scan_none _ b _ _ k (show scan (decide (kform op = 3)) b (flen (kform op)) (flen (kform op) - k) k = 21 from hj)
      exact scan_small _ b _ _ k h1 j hk (by omega) d hd
theorem dec_small {b : List UInt8} (h : (dec b).e ≠ 20) (j : Nat) (h1 : 1 ≤ j) (hj : j < (dec b).n ∨ (dec b).e = 21) (d : UInt8) (hd : b[j]? = some d) : (d.toNat : Int) < 128 := by
  rcases b with _ | ⟨b0, rest⟩
  · simp at hd
  rw [dec_cons] at h hj
  split at h
  · rename_i ho
    rw [if_pos ho] at hj
    split at h
    · rename_i hA
      rw [if_pos hA] at hj
      rcases rest with _ | ⟨b1, rest⟩
      · obtain ⟨t, rfl⟩ : ∃ t, j = t + 1 := ⟨j - 1, by omega⟩
        simp at hd
      · simp only at h hj
        split at h
        · rename_i hB
          rw [if_pos hB] at hj
          split at h
          · exact absurd rfl h
          · rename_i h64
            rw [if_neg h64] at hj
            rcases Nat.eq_or_lt_of_le h1 with rfl | h2
            · simp at hd
              subst hd
              omega
            · exact decB_small h j h2 hj d hd
        · rename_i hB
          rw [if_neg hB] at hj
          split at h
          · exact absurd rfl h
          · rename_i h64
            rw [if_neg h64] at hj
            rcases Nat.eq_or_lt_of_le h1 with rfl | h2
            · simp at hd
              subst hd
              omega
            · exact decB_small h j h2 hj d hd
    · rename_i hA
      rw [if_neg hA] at hj
      exact decB_small h j h1 hj d hd
  · exact absurd rfl h
theorem dec_head {b0 : UInt8} {rest : List UInt8} (h : (dec (b0 :: rest)).e ≠ 20) : 128 ≤ (b0.toNat : Int) := by
  rw [dec_cons] at h
  split at h
  · rename_i ho
    simp only [isOp, Bool.or_eq_true, Bool.and_eq_true, decide_eq_true_eq] at ho
    omega
  · exact absurd rfl h
theorem dec_swap {b : List UInt8} {j : Nat} {c d : UInt8} (hd : b[j]? = some d) (h1 : 1 ≤ j) (hd8 : 128 ≤ (d.toNat : Int)) (hc : 128 ≤ (c.toNat : Int)) :
    (dec (b.set j c)).e = (dec b).e ∧ ((dec b).e = 0 → dec (b.set j c) = dec b) := by
  rcases dec_e b with he | he | he
  · have hj : (dec b).n ≤ j := by
      refine Nat.le_of_not_lt fun h => ?_
      have := dec_small (by rw [he]; decide) j h1 (.inl h) d hd
      omega
    rw [dec_set he hj]
    exact ⟨rfl, fun _ => rfl⟩
  · rw [dec_bad hc h1 he, he]
    exact ⟨rfl, fun h => absurd h (by decide)⟩
  · have := dec_small (by rw [he]; decide) j h1 (.inr he) d hd
    omega
theorem fet_at (s : Sp) (pos : Int) : ∀ (m i j : Nat) (d : UInt8), (s.fet pos m i)[j]? = some d → s.byt[(iw .i64 (pos + (i + j : Nat))).toNat]? = some d ∧ s.has (iw .i64 (pos + (i + j : Nat))) = true ∧ s.pm (iw .i64 (pos + (i + j : Nat))) = 4
  | 0, i, j, d, h => by simp [fet_zero] at h
  | m + 1, i, j, d, h => by
    rw [fet_succ] at h
    split at h
    · rename_i hc
      obtain ⟨b, b1, _⟩ := Sp.byt_at hc.1
      cases j with
      | zero =>
        simp [b1] at h
        subst h
        exact ⟨b1, hc.1, hc.2⟩
      | succ j =>
        have := fet_at s pos m (i + 1) j d (by simpa using h)
        rw [show i + 1 + j = i + (j + 1) by omega] at this
        exact this
    · simp at h
theorem fet_out {s : Sp} {pos : Int} (hp : I64 pos) (h : ¬ (0 ≤ pos ∧ pos < s.byt.length)) : s.fet pos 12 0 = [] := by
  rw [fet_succ s pos 11 0, iw64 (by unfold I64 at hp; omega) (by unfold I64 at hp; omega), if_neg]
  intro hh
  have := hh.1
  simp only [Sp.has, Bool.and_eq_true, decide_eq_true_eq] at this
  omega
end Go.Proofs.YtfiflailjbmlpaaGreatDoor
set_option maxRecDepth 100000
set_option linter.unusedVariables false
set_option linter.unusedSimpArgs false
namespace Go.Proofs.YtfiflailjbmlpaaGreatDoor
open Go.AM
structure Pt where
  at_ : Int
  old : UInt8
  n : Int
structure Pd where
  s : Sp
  l : List Pt
def putL (f : Pt → UInt8) : List Pt → Sp → Sp
  | [], s => s
  | x :: l, s => putL f l (s.put x.at_.toNat (f x))
def Pd.clean (p : Pd) : Sp := putL Pt.old p.l p.s
def stand (s : Sp) (at_ : Int) : Dec := dec (s.fet at_ 12 0)
structure Pt.fits (s : Sp) (x : Pt) : Prop where
  a0 : 0 ≤ x.at_
  a1 : x.at_ < s.byt.length
  n1 : 1 ≤ x.n
  n2 : x.n ≤ 1000
  brk : s.byt[x.at_.toNat]? = some 204
structure Pd.ok (p : Pd) : Prop where
  sok : p.s.ok
  len : p.l.length ≤ 64
  sor : p.l.Pairwise (fun x y => x.at_ < y.at_)
  fits : ∀ x ∈ p.l, x.fits p.s
  std : ∀ x ∈ p.l, (stand p.clean x.at_).e = 0
theorem putL_perm (f : Pt → UInt8) : ∀ (l : List Pt) (s : Sp), (putL f l s).perm = s.perm
  | [], s => rfl
  | x :: l, s => putL_perm f l _
theorem putL_pm (f : Pt → UInt8) (l : List Pt) (s : Sp) (x : Int) : (putL f l s).pm x = s.pm x := by rw [Sp.pm, putL_perm, Sp.pm]
theorem putL_len (f : Pt → UInt8) : ∀ (l : List Pt) (s : Sp), (putL f l s).byt.length = s.byt.length
  | [], s => rfl
  | x :: l, s => (putL_len f l _).trans (by simp [Sp.put])
theorem putL_ok (f : Pt → UInt8) : ∀ (l : List Pt) {s : Sp}, s.ok → (putL f l s).ok
  | [], s, h => h
  | x :: l, s, h => putL_ok f l (put_ok h)
theorem putL_get_out (f : Pt → UInt8) : ∀ (l : List Pt) (s : Sp) (i : Nat), (∀ x ∈ l, x.at_.toNat ≠ i) → (putL f l s).byt[i]? = s.byt[i]?
  | [], s, i, h => rfl
  | x :: l, s, i, h => by
    rw [putL, putL_get_out f l _ i (fun y hy => h y (List.mem_cons_of_mem _ hy))]
    simp only [Sp.put]
    exact List.getElem?_set_ne (h x (List.mem_cons_self ..))
theorem putL_get_in (f : Pt → UInt8) : ∀ (l : List Pt) (s : Sp) (x : Pt), l.Pairwise (fun x y => x.at_ < y.at_) → (∀ y ∈ l, 0 ≤ y.at_ ∧ y.at_ < s.byt.length) → x ∈ l → (putL f l s).byt[x.at_.toNat]? = some (f x)
  | [], s, x, _, _, h => by cases h
  | y :: l, s, x, hp, hb, h => by
    rw [List.pairwise_cons] at hp
    rw [putL]
    have hy := hb y (List.mem_cons_self ..)
    rcases List.mem_cons.1 h with rfl | h
    · rw [putL_get_out f l _ _ (fun z hz => by have := hp.1 z hz; have := (hb z (List.mem_cons_of_mem _ hz)).1; omega)]
      simp only [Sp.put]
      exact List.getElem?_set_self (by omega)
    · exact putL_get_in f l _ x hp.2 (fun z hz => by have := hb z (List.mem_cons_of_mem _ hz); simpa [Sp.put] using this) h
theorem stand_at {s : Sp} {a : Int} (ha : I64 a) (h : (stand s a).e ≠ 21) : 0 ≤ a ∧ a < s.byt.length ∧ s.pm a = 4 ∧ ∃ d : UInt8, ∃ t, s.fet a 12 0 = d :: t ∧ s.byt[a.toNat]? = some d := by
  unfold stand at h
  cases hf : s.fet a 12 0 with
  | nil => rw [hf] at h; exact absurd rfl h
  | cons d t =>
    have := fet_at s a 12 0 0 d (by rw [hf]; rfl)
    rw [show a + ((0 + 0 : Nat) : Int) = a by omega, iw64 (by unfold I64 at ha; omega) (by unfold I64 at ha; omega)] at this
    obtain ⟨h1, h2, h3⟩ := this
    simp only [Sp.has, Bool.and_eq_true, decide_eq_true_eq] at h2
    exact ⟨h2.1, h2.2, h3, d, t, rfl, h1⟩
theorem Pd.ok.bounds {p : Pd} (h : p.ok) : ∀ y ∈ p.l, 0 ≤ y.at_ ∧ y.at_ < p.s.byt.length := fun y hy => ⟨(h.fits y hy).a0, (h.fits y hy).a1⟩
theorem Pd.ok.i64 {p : Pd} (h : p.ok) {y : Pt} (hy : y ∈ p.l) : I64 y.at_ := by
  have := h.bounds y hy
  have := byt_len h.sok
  unfold I64
  omega
theorem Pd.ok.cok {p : Pd} (h : p.ok) : p.clean.ok := putL_ok _ _ h.sok
theorem Pd.ok.cget {p : Pd} (h : p.ok) {y : Pt} (hy : y ∈ p.l) : p.clean.byt[y.at_.toNat]? = some y.old := putL_get_in _ _ _ _ h.sor h.bounds hy
theorem Pd.ok.pm {p : Pd} (h : p.ok) {y : Pt} (hy : y ∈ p.l) : p.s.pm (y.at_.toNat : Int) = 4 := by
  have := (stand_at (h.i64 hy) (by rw [h.std y hy]; decide)).2.2.1
  rw [Pd.clean, putL_pm] at this
  rw [Int.toNat_of_nonneg (h.bounds y hy).1]
  exact this
theorem Pd.ok.old {p : Pd} (h : p.ok) {y : Pt} (hy : y ∈ p.l) : 128 ≤ (y.old.toNat : Int) := by
  have hst := h.std y hy
  obtain ⟨_, _, _, d, t, h1, h2⟩ := stand_at (h.i64 hy) (by rw [hst]; decide)
  rw [h.cget hy] at h2
  cases h2
  unfold stand at hst
  rw [h1] at hst
  exact dec_head (rest := t) (by rw [hst]; decide)
end Go.Proofs.YtfiflailjbmlpaaGreatDoor
set_option maxRecDepth 100000
set_option linter.unusedVariables false
set_option linter.unusedSimpArgs false
namespace Go.Proofs.YtfiflailjbmlpaaGreatDoor
open Go.AM
def immD (i a b : Int) : Int := iw .i64 (i + iw .i64 (a - b))
def Ins.im' (x : Ins) (v : Int) : Ins := { x with imm := v }
def dispE (x : Ins) (a b : Int) : Ins × Int :=
  if x.op = 27 ∨ x.op = 28 ∨ x.op = 33 ∨ x.op = 76 then (x, 3)
  else if 21 ≤ x.op ∧ x.op ≤ 25 ∧ immD x.imm a b = 0 then (x, 3)
  else if 21 ≤ x.op ∧ x.op ≤ 25 ∨ x.op = 32 then (if (x.im' (immD x.imm a b)).ok then (x.im' (immD x.imm a b), 2) else (x, 3))
  else (x, 1)
theorem dispE_cases (x : Ins) (a b : Int) : ((dispE x a b).2 = 3 ∧ (dispE x a b).1 = x) ∨
    (dispE x a b = (x, 1) ∧ ¬ (x.op = 27 ∨ x.op = 28 ∨ x.op = 33 ∨ x.op = 76) ∧ ¬ (21 ≤ x.op ∧ x.op ≤ 25 ∨ x.op = 32)) ∨
    (dispE x a b = (x.im' (immD x.imm a b), 2) ∧ (x.im' (immD x.imm a b)).ok ∧ (21 ≤ x.op ∧ x.op ≤ 25 ∨ x.op = 32) ∧ (x.op ≤ 25 → immD x.imm a b ≠ 0)) := by
  unfold dispE
  split
  · exact .inl ⟨rfl, rfl⟩
  · rename_i h1
    split
    · exact .inl ⟨rfl, rfl⟩
    · rename_i h2
      split
      · rename_i h3
        split
        · rename_i h4
          exact .inr (.inr ⟨rfl, h4, h3, fun h h0 => h2 ⟨by omega, by omega, h0⟩⟩)
        · exact .inl ⟨rfl, rfl⟩
      · rename_i h3
        exact .inr (.inl ⟨rfl, h1, h3⟩)
def fixE (x : Ins) (n : Nat) (a b : Int) (f : Eff) : Eff :=
  ⟨f.rg.at' (if ¬ f.trap.kind = 0 then a else if (x.op ≠ 26 ∧ x.op ≠ 29) ∧ f.rg.pc = iw .i64 (b + n) then iw .i64 (a + n) else f.rg.pc), f.pos, f.data, f.trap, x⟩
end Go.Proofs.YtfiflailjbmlpaaGreatDoor
set_option maxRecDepth 100000
set_option linter.unusedVariables false
set_option linter.unusedSimpArgs false
namespace Go.Proofs.YtfiflailjbmlpaaGreatDoor
open Go.AM
def Pd.has (p : Pd) (a : Int) : Bool := p.l.any (fun y => decide (y.at_ = a))
theorem Pd.has_true {p : Pd} {a : Int} : p.has a = true ↔ ∃ y ∈ p.l, y.at_ = a := by simp [Pd.has]
theorem Pd.has_false {p : Pd} {a : Int} : p.has a = false ↔ ∀ y ∈ p.l, y.at_ ≠ a := by simp [Pd.has]
def Pd.stepE (p : Pd) (r : Rg) (slot : Int) : Eff × Int :=
  if p.has r.pc = true then
    (if (dispE (stand p.clean r.pc).x r.pc slot).2 = 3 then (exec (stand p.clean r.pc).x p.s r, 3)
     else (fixE (stand p.clean r.pc).x (stand p.clean r.pc).n r.pc slot (exec (dispE (stand p.clean r.pc).x r.pc slot).1 p.s (r.at' slot)), (dispE (stand p.clean r.pc).x r.pc slot).2))
  else (step p.s r, 0)
theorem stand_put {s : Sp} (hs : s.ok) {k : Nat} {c d : UInt8} (hd : s.byt[k]? = some d) (hd8 : 128 ≤ (d.toNat : Int)) (hc : 128 ≤ (c.toNat : Int)) {a : Int} (ha : I64 a) (hne : a ≠ k) :
    (stand (s.put k c) a).e = (stand s a).e ∧ ((stand s a).e = 0 → stand (s.put k c) a = stand s a) := by
  have hbl := byt_len hs
  unfold stand
  by_cases hin : 0 ≤ a ∧ a < s.byt.length
  · rw [fet_put s hs k c a hin.1 (by omega) 12 0 (by omega)]
    split
    · rename_i hle
      cases hg : (s.fet a 12 0)[((k : Int) - a - (0 : Nat)).toNat]? with
      | none =>
        rw [List.set_eq_of_length_le (List.getElem?_eq_none_iff.1 hg)]
        exact ⟨rfl, fun _ => rfl⟩
      | some e =>
        have h3 := (fet_at s a 12 0 _ e hg).1
        rw [show a + ((0 + ((k : Int) - a - (0 : Nat)).toNat : Nat) : Int) = k by omega, iw64 (by omega) (by have := (List.getElem?_eq_some_iff.1 hd).1; omega), Int.toNat_natCast, hd] at h3
        cases h3
        exact dec_swap hg (by omega) hd8 hc
    · exact ⟨rfl, fun _ => rfl⟩
  · rw [fet_out ha hin, fet_out ha (by simpa [Sp.put] using hin)]
    exact ⟨rfl, fun _ => rfl⟩
theorem stand_putL (f : Pt → UInt8) {a : Int} (ha : I64 a) : ∀ (l : List Pt) {s : Sp}, s.ok → (∀ y ∈ l, (∃ d : UInt8, s.byt[y.at_.toNat]? = some d ∧ 128 ≤ (d.toNat : Int)) ∧ 128 ≤ ((f y).toNat : Int) ∧ a ≠ y.at_.toNat) →
    (stand (putL f l s) a).e = (stand s a).e ∧ ((stand s a).e = 0 → stand (putL f l s) a = stand s a)
  | [], s, _, _ => ⟨rfl, fun _ => rfl⟩
  | y :: l, s, hs, h => by
    obtain ⟨⟨d, h2, h3⟩, h4, h5⟩ := h y (List.mem_cons_self ..)
    obtain ⟨q1, q2⟩ := stand_put hs h2 h3 h4 ha h5
    obtain ⟨q3, q4⟩ := stand_putL f ha l (s := s.put y.at_.toNat (f y)) (put_ok hs) (fun z hz => by
      obtain ⟨⟨e, g2, g3⟩, g4, g5⟩ := h z (List.mem_cons_of_mem _ hz)
      refine ⟨?_, g4, g5⟩
      by_cases hk : y.at_.toNat = z.at_.toNat
      · refine ⟨f y, ?_, h4⟩
        simp only [Sp.put]
        rw [hk]
        exact List.getElem?_set_self (List.getElem?_eq_some_iff.1 g2).1
      · refine ⟨e, ?_, g3⟩
        simp only [Sp.put]
        rw [List.getElem?_set_ne hk]
        exact g2)
    rw [putL]
    exact ⟨q3.trans q1, fun h0 => (q4 (by rw [q1]; exact h0)).trans (q2 h0)⟩
theorem Pd.ok.standC {p : Pd} (h : p.ok) {a : Int} (ha : I64 a) (hn : p.has a = false) : (stand p.clean a).e = (stand p.s a).e ∧ ((stand p.s a).e = 0 → stand p.clean a = stand p.s a) :=
  stand_putL _ ha _ h.sok (fun y hy => ⟨⟨204, (h.fits y hy).brk, by decide⟩, h.old hy, fun e => Pd.has_false.1 hn y hy (by have := (h.bounds y hy).1; omega)⟩)
theorem sorted_ext : ∀ {l m : List Pt}, l.Pairwise (fun x y => x.at_ < y.at_) → m.Pairwise (fun x y => x.at_ < y.at_) → (∀ y, y ∈ l ↔ y ∈ m) → l = m
  | [], [], _, _, _ => rfl
  | [], y :: m, _, _, h => by have := (h y).2 (List.mem_cons_self ..); cases this
  | x :: l, [], _, _, h => by have := (h x).1 (List.mem_cons_self ..); cases this
  | x :: l, y :: m, hl, hm, h => by
    rw [List.pairwise_cons] at hl hm
    have hxy : x = y := by
      rcases List.mem_cons.1 ((h x).1 (List.mem_cons_self ..)) with e | hx
      · exact e
      · rcases List.mem_cons.1 ((h y).2 (List.mem_cons_self ..)) with e | hy
        · exact e.symm
        · have := hl.1 y hy
          have := hm.1 x hx
          omega
    subst hxy
    rw [sorted_ext hl.2 hm.2 (fun z => ?_)]
    have hz := h z
    simp only [List.mem_cons] at hz
    constructor
    · intro q
      rcases hz.1 (.inr q) with e | e
      · subst e; have := hl.1 z q; omega
      · exact e
    · intro q
      rcases hz.2 (.inr q) with e | e
      · subst e; have := hm.1 z q; omega
      · exact e
theorem Sp.ext2 {s t : Sp} (h1 : s.perm = t.perm) (h2 : ∀ i : Nat, s.byt[i]? = t.byt[i]?) : s = t := by
  obtain ⟨a, b⟩ := s
  obtain ⟨c, d⟩ := t
  simp only at h1 h2
  subst h1
  rw [List.ext_getElem? h2]
theorem Pd.ext' {p q : Pd} (hp : p.ok) (hq : q.ok) (hc : p.clean = q.clean) (hl : ∀ y, y ∈ p.l ↔ y ∈ q.l) : p = q := by
  have e : p.l = q.l := sorted_ext hp.sor hq.sor hl
  have e2 : p.s = q.s := by
    refine Sp.ext2 ?_ fun i => ?_
    · have := congrArg Sp.perm hc
      rwa [Pd.clean, Pd.clean, putL_perm, putL_perm] at this
    · by_cases h : ∃ y ∈ p.l, y.at_.toNat = i
      · obtain ⟨y, hy, rfl⟩ := h
        rw [(hp.fits y hy).brk, (hq.fits y ((hl y).1 hy)).brk]
      · have h1 : ∀ y ∈ p.l, y.at_.toNat ≠ i := fun y hy e => h ⟨y, hy, e⟩
        have := congrArg (fun s => s.byt[i]?) hc
        simp only [Pd.clean] at this
        rwa [putL_get_out _ _ _ _ h1, putL_get_out _ _ _ _ (fun y hy => h1 y ((hl y).2 hy))] at this
  obtain ⟨a, b⟩ := p
  obtain ⟨c, d⟩ := q
  simp only at e e2
  subst e e2
  rfl
end Go.Proofs.YtfiflailjbmlpaaGreatDoor
set_option maxRecDepth 100000
set_option linter.unusedVariables false
set_option linter.unusedSimpArgs false
namespace Go.Proofs.YtfiflailjbmlpaaGreatDoor
open Go.AM
abbrev Srt (l : List Pt) : Prop := l.Pairwise (fun x y => x.at_ < y.at_)
def lb (a : Int) : List Pt → Nat
  | [] => 0
  | y :: l => if y.at_ < a then lb a l + 1 else 0
theorem lb_le (a : Int) : ∀ l : List Pt, lb a l ≤ l.length
  | [] => Nat.le_refl _
  | y :: l => by have := lb_le a l; unfold lb; split <;> simp <;> omega
theorem lb_take (a : Int) : ∀ (l : List Pt), ∀ y ∈ l.take (lb a l), y.at_ < a
  | [], y, h => by simp at h
  | x :: l, y, h => by
    unfold lb at h
    split at h
    · rename_i hx
      rw [List.take_succ_cons] at h
      rcases List.mem_cons.1 h with rfl | h
      · exact hx
      · exact lb_take a l y h
    · simp at h
theorem lb_drop (a : Int) : ∀ (l : List Pt), Srt l → ∀ y ∈ l.drop (lb a l), a ≤ y.at_
  | [], _, y, h => by simp at h
  | x :: l, hs, y, h => by
    rw [Srt, List.pairwise_cons] at hs
    unfold lb at h
    split at h
    · rw [List.drop_succ_cons] at h
      exact lb_drop a l hs.2 y h
    · rw [List.drop_zero] at h
      rcases List.mem_cons.1 h with rfl | h
      · omega
      · have := hs.1 y h; omega
theorem lb_get {a : Int} : ∀ {l : List Pt}, Srt l → ∀ {y : Pt}, y ∈ l → y.at_ = a → l[lb a l]? = some y
  | [], _, y, h, _ => by cases h
  | x :: l, hs, y, h, e => by
    rw [Srt, List.pairwise_cons] at hs
    unfold lb
    rcases List.mem_cons.1 h with rfl | h
    · rw [if_neg (by omega)]
      rfl
    · have := hs.1 y h
      rw [if_pos (by omega)]
      exact lb_get hs.2 h e
def Pd.cur (p : Pd) (a : Int) : Option Pt := match p.l[lb a p.l]? with
  | some y => if y.at_ = a then some y else none
  | none => none
theorem Pd.cur_some {p : Pd} (hs : Srt p.l) {a : Int} {y : Pt} : p.cur a = some y ↔ y ∈ p.l ∧ y.at_ = a := by
  unfold Pd.cur
  constructor
  · intro h
    split at h
    · rename_i z hz
      split at h
      · rename_i e
        cases h
        exact ⟨List.mem_of_getElem? hz, e⟩
      · cases h
    · cases h
  · rintro ⟨h, e⟩
    rw [lb_get hs h e]
    simp [e]
theorem Pd.cur_at {p : Pd} {a : Int} {y : Pt} (h : p.cur a = some y) : p.l[lb a p.l]? = some y ∧ y.at_ = a := by
  unfold Pd.cur at h
  split at h
  · rename_i z hz
    split at h
    · rename_i e
      cases h
      exact ⟨hz, e⟩
    · cases h
  · cases h
theorem Pd.cur_none {p : Pd} (hs : Srt p.l) {a : Int} : p.cur a = none ↔ p.has a = false := by
  rw [Pd.has_false]
  constructor
  · intro h y hy e
    rw [(Pd.cur_some hs).2 ⟨hy, e⟩] at h
    cases h
  · intro h
    cases hc : p.cur a with
    | none => rfl
    | some y => exact absurd ((Pd.cur_some hs).1 hc).2 (h y ((Pd.cur_some hs).1 hc).1)
def b204 : Pt → UInt8 := fun _ => 204
theorem mk_eq {p : Pd} (h : p.ok) : p.s = putL b204 p.l p.clean := by
  refine Sp.ext2 (by rw [putL_perm, Pd.clean, putL_perm]) fun i => ?_
  by_cases hi : ∃ y ∈ p.l, y.at_.toNat = i
  · obtain ⟨y, hy, rfl⟩ := hi
    rw [(h.fits y hy).brk, putL_get_in _ _ _ _ h.sor (fun z hz => by rw [Pd.clean, putL_len]; exact h.bounds z hz) hy]
    rfl
  · have h1 : ∀ y ∈ p.l, y.at_.toNat ≠ i := fun y hy e => hi ⟨y, hy, e⟩
    rw [putL_get_out _ _ _ _ h1, Pd.clean, putL_get_out _ _ _ _ h1]
structure LOk (c : Sp) (l : List Pt) : Prop where
  len : l.length ≤ 64
  sor : Srt l
  fits : ∀ z ∈ l, 0 ≤ z.at_ ∧ z.at_ < c.byt.length ∧ 1 ≤ z.n ∧ z.n ≤ 1000 ∧ c.byt[z.at_.toNat]? = some z.old ∧ (stand c z.at_).e = 0
def mkP (c : Sp) (l : List Pt) : Pd := ⟨putL b204 l c, l⟩
theorem mk_clean {c : Sp} {l : List Pt} (h : LOk c l) : (mkP c l).clean = c := by
  have hb : ∀ y ∈ l, 0 ≤ y.at_ ∧ y.at_ < c.byt.length := fun y hy => ⟨(h.fits y hy).1, (h.fits y hy).2.1⟩
  refine Sp.ext2 (by rw [Pd.clean, putL_perm, mkP, putL_perm]) fun i => ?_
  rw [Pd.clean, mkP]
  by_cases hi : ∃ y ∈ l, y.at_.toNat = i
  · obtain ⟨y, hy, rfl⟩ := hi
    rw [putL_get_in _ _ _ _ h.sor (fun z hz => by rw [putL_len]; exact hb z hz) hy, (h.fits y hy).2.2.2.2.1]
  · have h1 : ∀ y ∈ l, y.at_.toNat ≠ i := fun y hy e => hi ⟨y, hy, e⟩
    rw [putL_get_out _ _ _ _ h1, putL_get_out _ _ _ _ h1]
theorem mk_ok {c : Sp} (hc : c.ok) {l : List Pt} (h : LOk c l) : (mkP c l).ok := by
  have hb : ∀ y ∈ l, 0 ≤ y.at_ ∧ y.at_ < c.byt.length := fun y hy => ⟨(h.fits y hy).1, (h.fits y hy).2.1⟩
  refine ⟨putL_ok _ _ hc, h.len, h.sor, fun y hy => ?_, fun y hy => ?_⟩
  · have hy2 : y ∈ l := hy
    obtain ⟨h1, h2, h3, h4, _⟩ := h.fits y hy2
    exact ⟨h1, by rw [mkP, putL_len]; exact h2, h3, h4, putL_get_in _ _ _ _ h.sor hb hy2⟩
  · rw [mk_clean h]
    exact (h.fits y hy).2.2.2.2.2
theorem Pd.ok.lok {p : Pd} (h : p.ok) : LOk p.clean p.l := ⟨h.len, h.sor, fun z hz => ⟨(h.bounds z hz).1, by rw [Pd.clean, putL_len]; exact (h.bounds z hz).2, (h.fits z hz).n1, (h.fits z hz).n2, h.cget hz, h.std z hz⟩⟩
end Go.Proofs.YtfiflailjbmlpaaGreatDoor
set_option maxRecDepth 100000
set_option linter.unusedVariables false
set_option linter.unusedSimpArgs false
namespace Go.Proofs.YtfiflailjbmlpaaGreatDoor
open Go.AM
theorem lb_split {a : Int} {l : List Pt} {y : Pt} (h : l[lb a l]? = some y) : l = l.take (lb a l) ++ y :: l.drop (lb a l + 1) := by
  have h1 := drop_at h
  rw [← h1, List.take_append_drop]
def insL (a : Int) (x : Pt) (l : List Pt) : List Pt := l.take (lb a l) ++ x :: l.drop (lb a l)
theorem ins_mem {a : Int} {x : Pt} {l : List Pt} {z : Pt} : z ∈ insL a x l ↔ z = x ∨ z ∈ l := by
  have : z ∈ l ↔ z ∈ l.take (lb a l) ∨ z ∈ l.drop (lb a l) := by rw [← List.mem_append, List.take_append_drop]
  rw [this, insL, List.mem_append, List.mem_cons]
  constructor
  · rintro (h | h | h)
    · exact .inr (.inl h)
    · exact .inl h
    · exact .inr (.inr h)
  · rintro (h | h | h)
    · exact .inr (.inl h)
    · exact .inl h
    · exact .inr (.inr h)
theorem ins_len (a : Int) (x : Pt) (l : List Pt) : (insL a x l).length = l.length + 1 := by
  have := lb_le a l
  simp [insL]
  omega
theorem ins_sor {a : Int} {x : Pt} {l : List Pt} (hs : Srt l) (hx : x.at_ = a) (hn : ∀ y ∈ l, y.at_ ≠ a) : Srt (insL a x l) := by
  have hs2 := hs
  rw [← List.take_append_drop (lb a l) l, Srt, List.pairwise_append] at hs2
  rw [insL, Srt, List.pairwise_append, List.pairwise_cons]
  refine ⟨hs2.1, ⟨fun y hy => ?_, hs2.2.1⟩, fun u hu v hv => ?_⟩
  · have h1 := lb_drop a l hs y hy
    have h2 := hn y (List.mem_of_mem_drop hy)
    omega
  · have h1 := lb_take a l u hu
    rcases List.mem_cons.1 hv with rfl | hv
    · omega
    · exact hs2.2.2 u hu v hv
theorem parts {a : Int} {l : List Pt} {y : Pt} (hs : Srt l) (h : l[lb a l]? = some y) (he : y.at_ = a) :
    Srt (l.take (lb a l)) ∧ Srt (l.drop (lb a l + 1)) ∧ (∀ u ∈ l.take (lb a l), u.at_ < a) ∧ (∀ v ∈ l.drop (lb a l + 1), a < v.at_) ∧
    (∀ z, z ∈ l ↔ z ∈ l.take (lb a l) ∨ z = y ∨ z ∈ l.drop (lb a l + 1)) ∧ l.length = (l.take (lb a l)).length + (l.drop (lb a l + 1)).length + 1 := by
  have h1 := lb_split h
  have hs2 := hs
  rw [h1, Srt, List.pairwise_append, List.pairwise_cons] at hs2
  refine ⟨hs2.1, hs2.2.1.2, lb_take a l, fun v hv => ?_, fun z => ?_, ?_⟩
  · rw [← he]; exact hs2.2.1.1 v hv
  · conv => lhs; rw [h1]
    rw [List.mem_append, List.mem_cons]
  · have h2 := (List.getElem?_eq_some_iff.1 h).1
    simp
    omega
theorem set_parts {a : Int} {l : List Pt} {y x : Pt} (h : l[lb a l]? = some y) : l.set (lb a l) x = l.take (lb a l) ++ x :: l.drop (lb a l + 1) :=
  List.set_eq_take_append_cons_drop.trans (if_pos (List.getElem?_eq_some_iff.1 h).1)
theorem set_sor {a : Int} {l : List Pt} {y x : Pt} (hs : Srt l) (h : l[lb a l]? = some y) (he : y.at_ = a) (hx : x.at_ = a) : Srt (l.set (lb a l) x) := by
  obtain ⟨p1, p2, p3, p4, p5, p6⟩ := parts hs h he
  rw [set_parts h, Srt, List.pairwise_append, List.pairwise_cons]
  refine ⟨p1, ⟨fun v hv => by rw [hx]; exact p4 v hv, p2⟩, fun u hu v hv => ?_⟩
  have := p3 u hu
  rcases List.mem_cons.1 hv with rfl | hv
  · omega
  · have := p4 v hv; omega
theorem set_mem {a : Int} {l : List Pt} {y x : Pt} (hs : Srt l) (h : l[lb a l]? = some y) (he : y.at_ = a) {z : Pt} : z ∈ l.set (lb a l) x ↔ z = x ∨ (z ∈ l ∧ z.at_ ≠ a) := by
  obtain ⟨p1, p2, p3, p4, p5, p6⟩ := parts hs h he
  rw [set_parts h, List.mem_append, List.mem_cons, p5 z]
  constructor
  · rintro (h1 | h1 | h1)
    · exact .inr ⟨.inl h1, by have := p3 z h1; omega⟩
    · exact .inl h1
    · exact .inr ⟨.inr (.inr h1), by have := p4 z h1; omega⟩
  · rintro (h1 | ⟨h1 | h1 | h1, h2⟩)
    · exact .inr (.inl h1)
    · exact .inl h1
    · subst h1; exact absurd he h2
    · exact .inr (.inr h1)
def p0 : Pd := ⟨⟨[], []⟩, []⟩
def Pd.inst (p : Pd) (a : Int) : Pd × Int := match p.cur a with
  | some y => if y.n = 1000 then (p0, 2) else (⟨p.s, p.l.set (lb a p.l) ⟨y.at_, y.old, y.n + 1⟩⟩, 0)
  | none => if (stand p.s a).e = 0 then (if p.l.length = 64 then (p0, 2) else (⟨p.s.put a.toNat 204, insL a ⟨a, (p.s.byt[a.toNat]?).getD 0, 1⟩ p.l⟩, 0)) else (p0, 71)
def Pd.rem (p : Pd) (a : Int) : Pd × Int := match p.cur a with
  | none => (p0, 3)
  | some y => if y.n = 1 then (⟨p.s.put a.toNat y.old, p.l.eraseIdx (lb a p.l)⟩, 0) else (⟨p.s, p.l.set (lb a p.l) ⟨y.at_, y.old, y.n - 1⟩⟩, 0)
structure Upd (p q : Pd) (a : Int) (z : Option Pt) : Prop where
  ok : q.ok
  cl : q.clean = p.clean
  cur : q.cur a = z
  oth : ∀ b, b ≠ a → q.cur b = p.cur b
theorem upd_mk {p q : Pd} {a : Int} {z : Option Pt} (h : p.ok) (hl : LOk p.clean q.l) (hs : q.s = putL b204 q.l p.clean) (hz : ∀ x, z = some x → x.at_ = a) (hm : ∀ x, x ∈ q.l ↔ z = some x ∨ (x ∈ p.l ∧ x.at_ ≠ a)) : Upd p q a z := by
  have e : q = mkP p.clean q.l := by
    obtain ⟨s, l⟩ := q
    simp only at hs
    rw [mkP, hs]
  have ok : q.ok := by rw [e]; exact mk_ok h.cok hl
  refine ⟨ok, by rw [e]; exact mk_clean hl, ?_, fun b hb => ?_⟩
  · cases z with
    | none =>
      rw [Pd.cur_none ok.sor, Pd.has_false]
      intro y hy e
      rcases (hm y).1 hy with h1 | h1
      · cases h1
      · exact h1.2 e
    | some x => exact (Pd.cur_some ok.sor).2 ⟨(hm x).2 (.inl rfl), hz x rfl⟩
  · cases hc : p.cur b with
    | none =>
      rw [Pd.cur_none ok.sor, Pd.has_false]
      intro y hy e
      rcases (hm y).1 hy with h1 | h1
      · exact hb (e.symm.trans (hz y h1))
      · exact Pd.has_false.1 ((Pd.cur_none h.sor).1 hc) y h1.1 e
    | some x =>
      obtain ⟨h1, h2⟩ := (Pd.cur_some h.sor).1 hc
      exact (Pd.cur_some ok.sor).2 ⟨(hm x).2 (.inr ⟨h1, by omega⟩), h2⟩
theorem lset {p : Pd} (h : p.ok) {a : Int} {y : Pt} (hy : p.cur a = some y) {n : Int} (h1 : 1 ≤ n) (h2 : n ≤ 1000) : Upd p ⟨p.s, p.l.set (lb a p.l) ⟨y.at_, y.old, n⟩⟩ a (some ⟨y.at_, y.old, n⟩) := by
  obtain ⟨hg, he⟩ := Pd.cur_at hy
  have hL := h.lok
  have hmy := List.mem_of_getElem? hg
  have hm := fun z => set_mem (x := ⟨y.at_, y.old, n⟩) (z := z) h.sor hg he
  refine upd_mk h ⟨by rw [List.length_set]; exact h.len, set_sor h.sor hg he he, fun z hz => ?_⟩ ?_ (fun x hx => by cases hx; exact he) (fun x => ?_)
  · rcases (hm z).1 hz with rfl | hz
    · obtain ⟨f1, f2, f3, f4, f5, f6⟩ := hL.fits y hmy
      exact ⟨f1, f2, h1, h2, f5, f6⟩
    · exact hL.fits z hz.1
  · simp only
    conv => lhs; rw [mk_eq h]
    refine Sp.ext2 (by rw [putL_perm, putL_perm]) fun i => ?_
    by_cases hi : ∃ u ∈ p.l, u.at_.toNat = i
    · obtain ⟨u, hu, rfl⟩ := hi
      rw [putL_get_in _ _ _ _ hL.sor (fun z hz => ⟨(hL.fits z hz).1, (hL.fits z hz).2.1⟩) hu]
      by_cases hua : u.at_ = a
      · have := putL_get_in b204 (p.l.set (lb a p.l) ⟨y.at_, y.old, n⟩) p.clean ⟨y.at_, y.old, n⟩ (set_sor h.sor hg he he) (fun z hz => by
          rcases (hm z).1 hz with rfl | hz
          · exact ⟨(hL.fits y hmy).1, (hL.fits y hmy).2.1⟩
          · exact ⟨(hL.fits z hz.1).1, (hL.fits z hz.1).2.1⟩) ((hm _).2 (.inl rfl))
        simp only at this
        rw [hua.trans he.symm, this]
        rfl
      · have := putL_get_in b204 (p.l.set (lb a p.l) ⟨y.at_, y.old, n⟩) p.clean u (set_sor h.sor hg he he) (fun z hz => by
          rcases (hm z).1 hz with rfl | hz
          · exact ⟨(hL.fits y hmy).1, (hL.fits y hmy).2.1⟩
          · exact ⟨(hL.fits z hz.1).1, (hL.fits z hz.1).2.1⟩) ((hm u).2 (.inr ⟨hu, hua⟩))
        rw [this]
    · have h1 : ∀ u ∈ p.l, u.at_.toNat ≠ i := fun u hu e => hi ⟨u, hu, e⟩
      rw [putL_get_out _ _ _ _ h1, putL_get_out _ _ _ _ (fun z hz => by
        rcases (hm z).1 hz with rfl | hz
        · exact h1 y hmy
        · exact h1 z hz.1)]
  · rw [hm x]
    constructor
    · rintro (rfl | h3)
      · exact .inl rfl
      · exact .inr h3
    · rintro (h3 | h3)
      · cases h3; exact .inl rfl
      · exact .inr h3
end Go.Proofs.YtfiflailjbmlpaaGreatDoor
set_option maxRecDepth 100000
set_option linter.unusedVariables false
set_option linter.unusedSimpArgs false
namespace Go.Proofs.YtfiflailjbmlpaaGreatDoor
open Go.AM
theorem putL_ext {c s : Sp} {l : List Pt} (hl : LOk c l) (hp : s.perm = c.perm) (hin : ∀ y ∈ l, s.byt[y.at_.toNat]? = some 204) (hout : ∀ i : Nat, (∀ y ∈ l, y.at_.toNat ≠ i) → s.byt[i]? = c.byt[i]?) : s = putL b204 l c := by
  refine Sp.ext2 (by rw [putL_perm]; exact hp) fun i => ?_
  by_cases hi : ∃ y ∈ l, y.at_.toNat = i
  · obtain ⟨y, hy, rfl⟩ := hi
    rw [hin y hy, putL_get_in _ _ _ _ hl.sor (fun z hz => ⟨(hl.fits z hz).1, (hl.fits z hz).2.1⟩) hy]
    rfl
  · have h1 : ∀ y ∈ l, y.at_.toNat ≠ i := fun y hy e => hi ⟨y, hy, e⟩
    rw [hout i h1, putL_get_out _ _ _ _ h1]
theorem Pd.ok.perm {p : Pd} (h : p.ok) : p.s.perm = p.clean.perm := by rw [Pd.clean, putL_perm]
theorem Pd.ok.out {p : Pd} (h : p.ok) {i : Nat} (hi : ∀ y ∈ p.l, y.at_.toNat ≠ i) : p.s.byt[i]? = p.clean.byt[i]? := by rw [Pd.clean, putL_get_out _ _ _ _ hi]
theorem lins {p : Pd} (h : p.ok) {a : Int} (ha : I64 a) (hc : p.cur a = none) (hst : (stand p.s a).e = 0) (hlen : p.l.length ≠ 64) :
    Upd p ⟨p.s.put a.toNat 204, insL a ⟨a, (p.s.byt[a.toNat]?).getD 0, 1⟩ p.l⟩ a (some ⟨a, (p.s.byt[a.toNat]?).getD 0, 1⟩) := by
  have hL := h.lok
  have hn := Pd.has_false.1 ((Pd.cur_none h.sor).1 hc)
  obtain ⟨q1, q2⟩ := h.standC ha ((Pd.cur_none h.sor).1 hc)
  obtain ⟨a0, a1, a2, d, t, _, hd⟩ := stand_at ha (by rw [hst]; decide)
  have hout : ∀ y ∈ p.l, y.at_.toNat ≠ a.toNat := fun y hy e => hn y hy (by have := (h.bounds y hy).1; omega)
  have hdc := (h.out hout).symm.trans hd
  have hcl : p.clean.byt.length = p.s.byt.length := by rw [Pd.clean, putL_len]
  rw [hd, Option.getD_some]
  have hlok : LOk p.clean (insL a ⟨a, d, 1⟩ p.l) := by
    refine ⟨by rw [ins_len]; have := h.len; omega, ins_sor h.sor rfl hn, fun z hz => ?_⟩
    rcases ins_mem.1 hz with rfl | hz
    · exact ⟨a0, by rw [hcl]; exact a1, Int.le_refl 1, (show (1 : Int) ≤ 1000 by decide), hdc, by rw [q1]; exact hst⟩
    · exact hL.fits z hz
  refine upd_mk h hlok (putL_ext hlok h.perm (fun y hy => ?_) (fun i hi => ?_)) (fun x hx => by cases hx; rfl) (fun x => ?_)
  · rcases ins_mem.1 hy with rfl | hy
    · simp only [Sp.put]
      exact List.getElem?_set_self (by omega)
    · simp only [Sp.put]
      rw [List.getElem?_set_ne (fun e => hout y hy e.symm)]
      exact (h.fits y hy).brk
  · have h1 := hi _ (ins_mem.2 (.inl rfl))
    simp only [Sp.put]
    rw [List.getElem?_set_ne h1]
    exact h.out fun y hy => hi y (ins_mem.2 (.inr hy))
  · rw [show x ∈ insL a ⟨a, d, 1⟩ p.l ↔ _ from ins_mem]
    constructor
    · rintro (rfl | h3)
      · exact .inl rfl
      · exact .inr ⟨h3, hn x h3⟩
    · rintro (h3 | h3)
      · cases h3; exact .inl rfl
      · exact .inr h3.1
theorem inst_some {p : Pd} (h : p.ok) {a : Int} {y : Pt} (hy : p.cur a = some y) (hn : y.n ≠ 1000) : (p.inst a).2 = 0 ∧ Upd p (p.inst a).1 a (some ⟨y.at_, y.old, y.n + 1⟩) ∧ (p.inst a).1.l.length = p.l.length := by
  have hf := h.fits y (List.mem_of_getElem? (Pd.cur_at hy).1)
  unfold Pd.inst
  rw [hy]
  simp only
  rw [if_neg hn]
  have := hf.n1
  have := hf.n2
  exact ⟨rfl, lset h hy (by omega) (by omega), List.length_set⟩
theorem inst_none {p : Pd} (h : p.ok) {a : Int} (ha : I64 a) (hc : p.cur a = none) (hst : (stand p.clean a).e = 0) (hlen : p.l.length ≠ 64) : (p.inst a).2 = 0 ∧ Upd p (p.inst a).1 a (some ⟨a, (p.clean.byt[a.toNat]?).getD 0, 1⟩) ∧ (p.inst a).1.l.length = p.l.length + 1 := by
  have hn := (Pd.cur_none h.sor).1 hc
  obtain ⟨q1, q2⟩ := h.standC ha hn
  rw [q1] at hst
  have hout : p.s.byt[a.toNat]? = p.clean.byt[a.toNat]? := h.out fun y hy e => Pd.has_false.1 hn y hy (by have := (h.bounds y hy).1; have := (stand_at ha (by rw [hst]; decide)).1; omega)
  have hI := lins h ha hc hst hlen
  unfold Pd.inst
  rw [hc]
  simp only
  rw [if_pos hst, if_neg hlen]
  rw [hout] at hI ⊢
  exact ⟨rfl, hI, ins_len ..⟩
theorem inst_inv {p : Pd} (h : p.ok) {a : Int} (ha : I64 a) (h0 : (p.inst a).2 = 0) : (∃ y, p.cur a = some y ∧ y.n ≠ 1000) ∨ (p.cur a = none ∧ (stand p.clean a).e = 0 ∧ p.l.length ≠ 64) := by
  unfold Pd.inst at h0
  cases hc : p.cur a with
  | some y =>
    rw [hc] at h0
    simp only at h0
    split at h0
    · exact absurd (show (2 : Int) = 0 from h0) (by decide)
    · rename_i hn; exact .inl ⟨y, rfl, hn⟩
  | none =>
    rw [hc] at h0
    simp only at h0
    split at h0
    · rename_i hst
      split at h0
      · exact absurd (show (2 : Int) = 0 from h0) (by decide)
      · rename_i hl
        exact .inr ⟨rfl, by rw [(h.standC ha ((Pd.cur_none h.sor).1 hc)).1]; exact hst, hl⟩
    · exact absurd (show (71 : Int) = 0 from h0) (by decide)
theorem Pd.ext3 {p q : Pd} (hp : p.ok) (hq : q.ok) (hc : p.clean = q.clean) (h : ∀ b, p.cur b = q.cur b) : p = q := by
  refine Pd.ext' hp hq hc fun y => ?_
  have h1 := Pd.cur_some hp.sor (a := y.at_) (y := y)
  have h2 := Pd.cur_some hq.sor (a := y.at_) (y := y)
  rw [h y.at_] at h1
  constructor
  · intro hy; exact (h2.1 (h1.2 ⟨hy, rfl⟩)).1
  · intro hy; exact (h1.1 (h2.2 ⟨hy, rfl⟩)).1
end Go.Proofs.YtfiflailjbmlpaaGreatDoor
set_option maxRecDepth 100000
set_option linter.unusedVariables false
set_option linter.unusedSimpArgs false
namespace Go.Proofs.YtfiflailjbmlpaaGreatDoor
open Go.AM
theorem inst_ok {p : Pd} (h : p.ok) {a : Int} (ha : I64 a) (h0 : (p.inst a).2 = 0) : ∃ z, Upd p (p.inst a).1 a (some z) ∧ z.at_ = a := by
  rcases inst_inv h ha h0 with ⟨y, hy, hn⟩ | ⟨hc, hst, hlen⟩
  · exact ⟨_, (inst_some h hy hn).2.1, (Pd.cur_at hy).2⟩
  · exact ⟨_, (inst_none h ha hc hst hlen).2.1, rfl⟩
end Go.Proofs.YtfiflailjbmlpaaGreatDoor
set_option maxRecDepth 100000
set_option linter.unusedVariables false
set_option linter.unusedSimpArgs false
namespace Go.Proofs.YtfiflailjbmlpaaGreatDoor
open Go.AM
noncomputable def Pd.app (p : Pd) (e : Eff) : Pd × Int := if (applyR p.s e).2 = 0 then (⟨(applyR p.s e).1, p.l⟩, 0) else (p0, (applyR p.s e).2)
end Go.Proofs.YtfiflailjbmlpaaGreatDoor
set_option maxRecDepth 100000
set_option linter.unusedVariables false
set_option linter.unusedSimpArgs false
namespace Go.Proofs.YtfiflailjbmlpaaGreatDoor
open Go.AM
theorem disp_ok {x : Ins} (hx : x.ok) (a b : Int) : (dispE x a b).1.ok := by
  rcases dispE_cases x a b with ⟨_, h⟩ | ⟨h, _⟩ | ⟨h, h2, _⟩
  · rw [h]; exact hx
  · rw [h]; exact hx
  · rw [h]; exact h2
end Go.Proofs.YtfiflailjbmlpaaGreatDoor
set_option maxRecDepth 100000
set_option linter.unusedVariables false
set_option linter.unusedSimpArgs false
namespace Go.Proofs.YtfiflailjbmlpaaGreatDoor
open Go.AM
theorem srt_adj : ∀ {l : List Pt}, (∀ (i : Nat) (x y : Pt), l[i]? = some x → l[i + 1]? = some y → x.at_ < y.at_) → Srt l
  | [], _ => List.Pairwise.nil
  | [x], _ => List.pairwise_singleton _ _
  | x :: y :: l, h => by
    have ih : Srt (y :: l) := srt_adj fun i u v hu hv => h (i + 1) u v (by simpa using hu) (by simpa using hv)
    have h0 := h 0 x y rfl rfl
    rw [Srt, List.pairwise_cons]
    refine ⟨fun z hz => ?_, ih⟩
    rcases List.mem_cons.1 hz with rfl | hz
    · exact h0
    · have := (List.pairwise_cons.1 ih).1 z hz
      omega
theorem srt_lt {l : List Pt} (hs : Srt l) {i j : Nat} {x y : Pt} (hij : i < j) (hx : l[i]? = some x) (hy : l[j]? = some y) : x.at_ < y.at_ := by
  obtain ⟨h1, rfl⟩ := List.getElem?_eq_some_iff.1 hx
  obtain ⟨h2, rfl⟩ := List.getElem?_eq_some_iff.1 hy
  exact List.pairwise_iff_getElem.1 hs i j h1 h2 hij
def okAt (s : Sp) (l : List Pt) (i : Nat) : Prop := ∀ x, l[i]? = some x → x.fits s ∧ ∀ y, 0 < i → l[i - 1]? = some y → y.at_ < x.at_
theorem okAt_all {s : Sp} {l : List Pt} : (∀ i, i < l.length → okAt s l i) ↔ Srt l ∧ ∀ x ∈ l, x.fits s := by
  constructor
  · intro h
    refine ⟨srt_adj fun i x y hx hy => ?_, fun x hx => ?_⟩
    · exact (h (i + 1) (List.getElem?_eq_some_iff.1 hy).1 y hy).2 x (by omega) hx
    · obtain ⟨i, hi⟩ := List.getElem?_of_mem hx
      exact (h i (List.getElem?_eq_some_iff.1 hi).1 x hi).1
  · rintro ⟨h1, h2⟩ i hi x hx
    exact ⟨h2 x (List.mem_of_getElem? hx), fun y h0 hy => srt_lt h1 (by omega) hy hx⟩
open Classical in
noncomputable def Pd.chk (p : Pd) : Int := if p.ok then 0 else 70
theorem Pd.chk_ok {p : Pd} (h : p.ok) : p.chk = 0 := if_pos h
theorem Pd.chk_no {p : Pd} (h : ¬ p.ok) : p.chk = 70 := if_neg h
theorem lb_eq {a : Int} {l : List Pt} (hs : Srt l) {i : Nat} (hi : i ≤ l.length) (h1 : ∀ (k : Nat) (x : Pt), k < i → l[k]? = some x → x.at_ < a) (h2 : ∀ x, l[i]? = some x → a ≤ x.at_) : lb a l = i := by
  have hle := lb_le a l
  rcases Nat.lt_trichotomy (lb a l) i with h | h | h
  · obtain ⟨x, hx⟩ := at_lt (l := l) (i := lb a l) (by omega)
    have := h1 _ x h hx
    have h3 := lb_drop a l hs x (by rw [drop_at hx]; exact List.mem_cons_self ..)
    omega
  · exact h
  · obtain ⟨x, hx⟩ := at_lt (l := l) (i := i) (by omega)
    have := h2 x hx
    have h3 := lb_take a l x (List.mem_of_getElem? (i := i) (by rw [List.getElem?_take, if_pos h]; exact hx))
    omega
def idx (a : Int) (l : List Pt) : Int := match l[lb a l]? with
  | some y => if y.at_ = a then (lb a l : Int) else -1
  | none => -1
theorem cur_idx {p : Pd} {a : Int} : (p.cur a = none ↔ idx a p.l < 0) ∧ (∀ y, p.cur a = some y → idx a p.l = lb a p.l) := by
  unfold Pd.cur idx
  cases p.l[lb a p.l]? with
  | none => exact ⟨⟨fun _ => show (-1 : Int) < 0 by decide, fun _ => rfl⟩, fun y h => by cases h⟩
  | some y =>
    simp only
    split
    · refine ⟨⟨fun h => (by cases h), fun h => ?_⟩, fun _ _ => rfl⟩
      omega
    · exact ⟨⟨fun _ => show (-1 : Int) < 0 by decide, fun _ => rfl⟩, fun y h => by cases h⟩
end Go.Proofs.YtfiflailjbmlpaaGreatDoor
set_option maxRecDepth 100000
set_option linter.unusedVariables false
set_option linter.unusedSimpArgs false
namespace Go.Proofs.YtfiflailjbmlpaaGreatDoor
open Go.AM
abbrev rp (x : Pt) : List AV := [iv x.at_, bv x.old, iv x.n]
theorem rp_lt0 (l : List Pt) : ∀ row ∈ l.map rp, ltL 0 row = true := rows_lt (fun _ => rfl) l
theorem rp_pure (l : List Pt) : ∀ row ∈ l.map rp, ∀ x ∈ row, x.pure = true := rows_pure (fun _ => rfl) l
def Pd.av (p : Pd) : AV := .agg [.view false 1 (p.s.perm.map r1), .view false 1 (p.s.byt.map rb), .view false 3 (p.l.map rp)]
theorem Pd.av_lt (p : Pd) (m : Nat) : p.av.lt m = true := rfl
theorem cloneB_f (xs : List UInt8) (full : Bool) (hl : xs.length ≤ 1000000) : ACalls Tryz.prog 106 [.view full 1 (xs.map rb)] [] (fun o H => o = .ret (.sl 0 0 xs.length none) ∧ H = [.rows 1 (xs.map rb)]) := by
  refine ACalls.up ?_
  refine ACalls.intro (cs := []) (n := 8) Tryz.func106 rfl rfl rfl (by kernel_rfl) rfl ?_
  generalize hpost : (fun (o : Out) (H : Heap) => o = Out.ret (.sl 0 0 xs.length none) ∧ H = [.rows 1 (xs.map rb)]) = post
  simp only [go_sem,Nat.reduceAdd,Nat.reduceSub,Nat.reduceMul,Nat.reduceEqDiff,Nat.reduceLeDiff,Nat.reduceLT,↓reduceIte,Int.reduceToNat,reduceCtorEq,Int.reduceLT,Int.reduceLE,Int.reduceGT,Int.reduceGE,Int.reduceEq,Int.reduceNe,Int.reduceNeg,Int.reduceAdd,Int.reduceSub,rK_ndb]
  intro b hb
  refine condD_split (fun e => ?_) (fun e => ?_)
  · have hl0 : xs = [] := by
      rw [List.length_map] at hb
      rcases xs with _ | ⟨x, l⟩
      · rfl
      · have := hb (by simp); rw [e] at this; cases this
    subst hl0
    simp only [go_sem,Nat.reduceAdd,Nat.reduceSub,Nat.reduceMul,Nat.reduceEqDiff,Nat.reduceLeDiff,Nat.reduceLT,↓reduceIte,Int.reduceToNat,reduceCtorEq,Int.reduceLT,Int.reduceLE,Int.reduceGT,Int.reduceGE,Int.reduceEq,Int.reduceNe,Int.reduceNeg,Int.reduceAdd,Int.reduceSub]
    refine .nils 0 1 (.done ?_)
    rw [← hpost]
    exact ⟨rfl, rfl⟩
  · have e5 : xs.length ≤ 68719476736 := by omega
    simp only [go_sem,Nat.reduceAdd,Nat.reduceSub,Nat.reduceMul,Nat.reduceEqDiff,Nat.reduceLeDiff,Nat.reduceLT,↓reduceIte,Int.reduceToNat,reduceCtorEq,Int.reduceLT,Int.reduceLE,Int.reduceGT,Int.reduceGE,Int.reduceEq,Int.reduceNe,Int.reduceNeg,Int.reduceAdd,Int.reduceSub,List.length_map,e5]
    refine .pick (o' := .ret (.sl 0 0 xs.length none)) (H' := [.rows 1 (xs.map rb)]) [1] (by simp) rfl ?_ rfl (.done (by rw [← hpost]; exact ⟨rfl, rfl⟩))
    simp [Blk.ren, Function.comp, AV.ren]
theorem cloneP_f (xs : List Pt) (full : Bool) (hl : xs.length ≤ 1000000) : ACalls Tryz.prog 70 [.view full 3 (xs.map rp)] [] (fun o H => o = .ret (.sl 0 0 xs.length none) ∧ H = [.rows 3 (xs.map rp)]) := by
  refine ACalls.up ?_
  refine ACalls.intro (cs := []) (n := 8) Tryz.func70 rfl rfl rfl (by kernel_rfl) rfl ?_
  generalize hpost : (fun (o : Out) (H : Heap) => o = Out.ret (.sl 0 0 xs.length none) ∧ H = [.rows 3 (xs.map rp)]) = post
  simp only [go_sem,Nat.reduceAdd,Nat.reduceSub,Nat.reduceMul,Nat.reduceEqDiff,Nat.reduceLeDiff,Nat.reduceLT,↓reduceIte,Int.reduceToNat,reduceCtorEq,Int.reduceLT,Int.reduceLE,Int.reduceGT,Int.reduceGE,Int.reduceEq,Int.reduceNe,Int.reduceNeg,Int.reduceAdd,Int.reduceSub,rK_ndb]
  intro b hb
  refine condD_split (fun e => ?_) (fun e => ?_)
  · have hl0 : xs = [] := by
      rw [List.length_map] at hb
      rcases xs with _ | ⟨x, l⟩
      · rfl
      · have := hb (by simp); rw [e] at this; cases this
    subst hl0
    simp only [go_sem,Nat.reduceAdd,Nat.reduceSub,Nat.reduceMul,Nat.reduceEqDiff,Nat.reduceLeDiff,Nat.reduceLT,↓reduceIte,Int.reduceToNat,reduceCtorEq,Int.reduceLT,Int.reduceLE,Int.reduceGT,Int.reduceGE,Int.reduceEq,Int.reduceNe,Int.reduceNeg,Int.reduceAdd,Int.reduceSub]
    refine .nils 0 3 (.done ?_)
    rw [← hpost]
    exact ⟨rfl, rfl⟩
  · have e5 : xs.length ≤ 68719476736 := by omega
    simp only [go_sem,Nat.reduceAdd,Nat.reduceSub,Nat.reduceMul,Nat.reduceEqDiff,Nat.reduceLeDiff,Nat.reduceLT,↓reduceIte,Int.reduceToNat,reduceCtorEq,Int.reduceLT,Int.reduceLE,Int.reduceGT,Int.reduceGE,Int.reduceEq,Int.reduceNe,Int.reduceNeg,Int.reduceAdd,Int.reduceSub,List.length_map,e5]
    refine .pick (o' := .ret (.sl 0 0 xs.length none)) (H' := [.rows 3 (xs.map rp)]) [1] (by simp) rfl ?_ rfl (.done (by rw [← hpost]; exact ⟨rfl, rfl⟩))
    simp [Blk.ren, Function.comp, AV.ren]
theorem pcopied_c (p : Pd) (h1 : p.s.perm.length ≤ 1000) (h2 : p.s.byt.length ≤ 1000000) (h3 : p.l.length ≤ 1000000) :
    ACalls Tryz.prog 58 [p.av] [] (fun o H => o = .ret (.agg [.view false 1 (p.s.perm.map r1), .sl 0 0 p.s.byt.length none, .sl 1 0 p.l.length none]) ∧ H = [.rows 1 (p.s.byt.map rb), .rows 3 (p.l.map rp)]) := by
  refine ACalls.up ?_
  refine ACalls.intro (cs := []) (n := 16) Tryz.func58 rfl rfl rfl (by kernel_rfl) rfl ?_
  generalize hpost : (fun (o : Out) (H : Heap) => o = Out.ret (.agg [.view false 1 (p.s.perm.map r1), .sl 0 0 p.s.byt.length none, .sl 1 0 p.l.length none]) ∧ H = [.rows 1 (p.s.byt.map rb), .rows 3 (p.l.map rp)]) = post
  simp only [go_sem,Nat.reduceAdd,Nat.reduceSub,Nat.reduceMul,Nat.reduceEqDiff,Nat.reduceLeDiff,Nat.reduceLT,↓reduceIte,Int.reduceToNat,reduceCtorEq,Int.reduceLT,Int.reduceLE,Int.reduceGT,Int.reduceGE,Int.reduceEq,Int.reduceNe,Int.reduceNeg,Int.reduceAdd,Int.reduceSub,Pd.av]
  refine draw [.qu 0 0, .qu 0 0, .qu 0 0, .mn 0, .qu 0 1, .qu 0 1, .rd 0 1, .mn 1, .qu 2 3, .qu 0 2, .rd 0 2, .mn 2, .qu 3 3, .mn 3] (by kernel_rfl) (by kernel_rfl) ?_
  simp only [go_sem,Nat.reduceAdd,Nat.reduceSub,Nat.reduceMul,Nat.reduceEqDiff,Nat.reduceLeDiff,Nat.reduceLT,↓reduceIte,Int.reduceToNat,reduceCtorEq,Int.reduceLT,Int.reduceLE,Int.reduceGT,Int.reduceGE,Int.reduceEq,Int.reduceNe,Int.reduceNeg,Int.reduceAdd,Int.reduceSub]
  refine dM_call (enters_of Tryz.func105 rfl (by decide)) (ACalls.pure_use (clone_int_c p.s.perm false h1) rfl rfl) ?_
  simp only [go_sem,Nat.reduceAdd,Nat.reduceSub,Nat.reduceMul,Nat.reduceEqDiff,Nat.reduceLeDiff,Nat.reduceLT,↓reduceIte,Int.reduceToNat,reduceCtorEq,Int.reduceLT,Int.reduceLE,Int.reduceGT,Int.reduceGE,Int.reduceEq,Int.reduceNe,Int.reduceNeg,Int.reduceAdd,Int.reduceSub]
  refine dM_call (enters_of Tryz.func106 rfl (by decide)) (ACalls.fresh (v' := .sl 2 0 p.s.byt.length none) (cloneB_f p.s.byt false h2) rfl (blt0 (rb_lt0 _)) rfl) ?_
  simp only [go_sem,Nat.reduceAdd,Nat.reduceSub,Nat.reduceMul,Nat.reduceEqDiff,Nat.reduceLeDiff,Nat.reduceLT,↓reduceIte,Int.reduceToNat,reduceCtorEq,Int.reduceLT,Int.reduceLE,Int.reduceGT,Int.reduceGE,Int.reduceEq,Int.reduceNe,Int.reduceNeg,Int.reduceAdd,Int.reduceSub]
  refine dM_call (enters_of Tryz.func70 rfl (by decide)) (ACalls.fresh (v' := .sl 3 0 p.l.length none) (cloneP_f p.l false h3) rfl (blt0 (rp_lt0 _)) rfl) ?_
  simp only [go_sem,Nat.reduceAdd,Nat.reduceSub,Nat.reduceMul,Nat.reduceEqDiff,Nat.reduceLeDiff,Nat.reduceLT,↓reduceIte,Int.reduceToNat,reduceCtorEq,Int.reduceLT,Int.reduceLE,Int.reduceGT,Int.reduceGE,Int.reduceEq,Int.reduceNe,Int.reduceNeg,Int.reduceAdd,Int.reduceSub]
  refine .pick (o' := .ret (.agg [.view false 1 (p.s.perm.map r1), .sl 0 0 p.s.byt.length none, .sl 1 0 p.l.length none])) (H' := [.rows 1 (p.s.byt.map rb), .rows 3 (p.l.map rp)]) [2, 3] (by simp) rfl ?_ rfl (.done (by rw [← hpost]; exact ⟨rfl, rfl⟩))
  simp [Blk.ren, Function.comp, AV.ren]
end Go.Proofs.YtfiflailjbmlpaaGreatDoor
set_option maxRecDepth 100000
set_option linter.unusedVariables false
set_option linter.unusedSimpArgs false
namespace Go.Proofs.YtfiflailjbmlpaaGreatDoor
open Go.AM
theorem putL_app (f : Pt → UInt8) : ∀ (a b : List Pt) (s : Sp), putL f (a ++ b) s = putL f b (putL f a s)
  | [], _, _ => rfl
  | x :: a, b, s => putL_app f a b _
theorem putL_succ {f : Pt → UInt8} {l : List Pt} {i : Nat} {x : Pt} (hx : l[i]? = some x) (s : Sp) : putL f (l.take (i + 1)) s = (putL f (l.take i) s).put x.at_.toNat (f x) := by
  rw [List.take_add_one, hx, Option.toList_some, putL_app]
  rfl
theorem ACalls.fresh2 {P : Program} {f : FuncId} {args : List AV} {v v' : AV} {b c : Blk} {H : Heap} (hc : ACalls P f args [] (fun o H => o = .ret v ∧ H = [b, c])) (ha : ltL 0 args = true) (hb : b.lt 0) (hb2 : c.lt 0) (hv : v.ren (pi [] H.length) = v') : ACalls P f args H (fun o H2 => o = .ret v' ∧ H2 = H ++ [b, c]) := by
  refine hc.useE [] v' (H ++ [b, c]) List.nodup_nil rfl (by simp) rfl (renL_pure' ha).symm hv ?_
  simp [patch, setMany, bren_lt (m := 0) (fun k hk => absurd hk (Nat.not_lt_zero k)) hb, bren_lt (m := 0) (fun k hk => absurd hk (Nat.not_lt_zero k)) hb2]
structure Pd.fit (p : Pd) : Prop where
  h1 : p.s.perm.length ≤ 1000
  h2 : p.s.byt.length ≤ 1000000
  h3 : p.l.length ≤ 1000000
theorem Pd.ok.fit {p : Pd} (h : p.ok) : p.fit := ⟨by have := h.sok.p32; omega, by have := byt_len h.sok; omega, by have := h.len; omega⟩
theorem pcopied_u (p : Pd) (h : p.fit) (H : Heap) : ACalls Tryz.prog 58 [p.av] H (fun o H2 => o = .ret (.agg [.view false 1 (p.s.perm.map r1), .sl H.length 0 p.s.byt.length none, .sl (H.length + 1) 0 p.l.length none]) ∧ H2 = H ++ [.rows 1 (p.s.byt.map rb), .rows 3 (p.l.map rp)]) :=
  ACalls.fresh2 (pcopied_c p h.h1 h.h2 h.h3) rfl (blt0 (rb_lt0 _)) (blt0 (rp_lt0 _)) (by simp [AV.ren, renL, pi])
theorem clean_c (p : Pd) (h : p.fit) (hb : ∀ y ∈ p.l, 0 ≤ y.at_ ∧ y.at_ < p.s.byt.length) : ACalls Tryz.prog 50 [p.av] [] (fun o H => o = .ret p.clean.av ∧ H = []) := by
  refine ACalls.up ?_
  refine ACalls.intro (cs := []) (n := 25) Tryz.func50 rfl rfl rfl (by kernel_rfl) rfl ?_
  generalize hpost : (fun (o : Out) (H : Heap) => o = Out.ret p.clean.av ∧ H = []) = post
  simp only [go_sem,Nat.reduceAdd,Nat.reduceSub,Nat.reduceMul,Nat.reduceEqDiff,Nat.reduceLeDiff,Nat.reduceLT,↓reduceIte,Int.reduceToNat,reduceCtorEq,Int.reduceLT,Int.reduceLE,Int.reduceGT,Int.reduceGE,Int.reduceEq,Int.reduceNe,Int.reduceNeg,Int.reduceAdd,Int.reduceSub,Pd.av]
  refine rK_use (enters_of Tryz.func58 rfl (by decide)) (pcopied_u p h _) ?_
  simp only [go_sem,Nat.reduceAdd,Nat.reduceSub,Nat.reduceMul,Nat.reduceEqDiff,Nat.reduceLeDiff,Nat.reduceLT,↓reduceIte,Int.reduceToNat,reduceCtorEq,Int.reduceLT,Int.reduceLE,Int.reduceGT,Int.reduceGE,Int.reduceEq,Int.reduceNe,Int.reduceNeg,Int.reduceAdd,Int.reduceSub,List.length_map]
  have hl3 := h.h3
  refine loop_fam (fun i : Nat => (((((Ch.nil.put 2 (.ptr 1 0 0)).put 3 (.ptr 4 0 0)).put 10 (.view false 3 (p.l.map rp))).put 11 (iv p.l.length)).put 12 (iv i)))
    (fun i => [.rows 3 [[.view false 1 (p.s.perm.map r1), .view false 1 (p.s.byt.map rb), .view false 3 (p.l.map rp)]], .rows 2 [[.view true 0 [], .view true 0 []]], .rows 1 ((putL Pt.old (p.l.take i) p.s).byt.map rb), .rows 3 (p.l.map rp), .rows 2 [[.view false 1 (p.s.perm.map r1), .sl 2 0 p.s.byt.length none]]])
    (fun i => p.l.length - i) (fun i => i ≤ p.l.length) 0 (by kernel_rfl) (Nat.zero_le _) (Wk.slots' rfl (by simp [wkS, Ch.get])) ?_
  rintro i hi K hK
  simp only [go_sem,Nat.reduceAdd,Nat.reduceSub,Nat.reduceMul,Nat.reduceEqDiff,Nat.reduceLeDiff,Nat.reduceLT,↓reduceIte,Int.reduceToNat,reduceCtorEq,Int.reduceLT,Int.reduceLE,Int.reduceGT,Int.reduceGE,Int.reduceEq,Int.reduceNe,Int.reduceNeg,Int.reduceAdd,Int.reduceSub]
  refine condD_dec (fun hc => ?_) (fun hc => ?_)
  · obtain ⟨x, hx⟩ := at_lt (l := p.l) (i := i) (by omega)
    obtain ⟨b0, b1⟩ := hb x (List.mem_of_getElem? hx)
    have e1 : iw .i64 ((i : Int) + 1) = ((i + 1 : Nat) : Int) := by rw [iw64] <;> omega
    have g1 : (0 : Int) ≤ i ∧ (i : Int) < p.l.length := ⟨by omega, by omega⟩
    have hl : (putL Pt.old (p.l.take i) p.s).byt.length = p.s.byt.length := putL_len ..
    have g3 : x.at_.toNat < p.s.byt.length := by omega
    obtain ⟨z, hz⟩ := at_lt (l := (putL Pt.old (p.l.take i) p.s).byt) (i := x.at_.toNat) (by omega)
    have hset : ((putL Pt.old (p.l.take i) p.s).byt.map rb).set x.at_.toNat [bv x.old] = (putL Pt.old (p.l.take (i + 1)) p.s).byt.map rb := by
      rw [putL_succ hx, Sp.put, List.map_set]
    simp only [go_sem,Nat.reduceAdd,Nat.reduceSub,Nat.reduceMul,Nat.reduceEqDiff,Nat.reduceLeDiff,Nat.reduceLT,↓reduceIte,Int.reduceToNat,reduceCtorEq,Int.reduceLT,Int.reduceLE,Int.reduceGT,Int.reduceGE,Int.reduceEq,Int.reduceNe,Int.reduceNeg,Int.reduceAdd,Int.reduceSub,hx,List.getElem?_map,List.length_map,g1,b0,b1,hl,g3,hz,hset,e1]
    exact hK (i + 1) _ _ (by omega) (by omega) (Wk.drop (m := 5) (by simp [wkS, Ch.get]) (Nat.zero_le _) (by simp) (by simp [chLt, AV.lt]) rfl (by simp only [List.forall_mem_cons]; exact ⟨by simp [Blk.lt, ltL, AV.lt], by simp [Blk.lt, ltL, AV.lt], blt0 (rb_lt0 _), blt0 (rp_lt0 _), by simp [Blk.lt, ltL, AV.lt], by simp⟩))
  · simp only [go_sem,Nat.reduceAdd,Nat.reduceSub,Nat.reduceMul,Nat.reduceEqDiff,Nat.reduceLeDiff,Nat.reduceLT,↓reduceIte,Int.reduceToNat,reduceCtorEq,Int.reduceLT,Int.reduceLE,Int.reduceGT,Int.reduceGE,Int.reduceEq,Int.reduceNe,Int.reduceNeg,Int.reduceAdd,Int.reduceSub]
    have : i = p.l.length := by omega
    subst this
    rw [List.take_length]
    refine up_one 2 1 (p.clean.byt.map rb) rfl (rb_lt0 _) ?_ ?_ ?_
    · simp [Out.fzOk, AV.fzOk, fzOkL, Pd.clean, putL_len]
    · simp [Out.fz, AV.fz, fzL, Out.lt, AV.lt, ltL]
    · rw [← hpost]
      have hl : p.clean.byt.length = p.s.byt.length := putL_len ..
      have e4 : (p.clean.byt.map rb).take p.s.byt.length = p.clean.byt.map rb := List.take_of_length_le (by simp [hl])
      simp [Out.fz, AV.fz, fzL, Sp.av, Pd.clean, putL_perm]
      exact e4
def sitC (s : Sp) (a : Int) : List AV := (stand s a).x.cells ++ [iv (stand s a).n]
theorem standing_c (s : Sp) (hs : s.ok) (a : Int) : ACalls Tryz.prog 49 [s.av, iv a] [] (fun o H => o = .ret (.tuple [.agg (sitC s a), .bool (decide ((stand s a).e = 0))]) ∧ H = []) := by
  refine ACalls.up ?_
  refine ACalls.intro (cs := []) (n := 30) Tryz.func49 rfl rfl rfl (by kernel_rfl) rfl ?_
  generalize hpost : (fun (o : Out) (H : Heap) => o = Out.ret (.tuple [.agg (sitC s a), .bool (decide ((stand s a).e = 0))]) ∧ H = []) = post
  simp only [go_sem,Nat.reduceAdd,Nat.reduceSub,Nat.reduceMul,Nat.reduceEqDiff,Nat.reduceLeDiff,Nat.reduceLT,↓reduceIte,Int.reduceToNat,reduceCtorEq,Int.reduceLT,Int.reduceLE,Int.reduceGT,Int.reduceGE,Int.reduceEq,Int.reduceNe,Int.reduceNeg,Int.reduceAdd,Int.reduceSub,Sp.av]
  refine rK_use (enters_of Tryz.func95 rfl (by decide)) (ACalls.pure_use (fetch_c s hs a 12 (by decide)) rfl (by simp [AV.lt, ltL])) ?_
  have hbl := s.fet_len a 12 0
  have hst : stand s a = dec (s.fet a 12 0) := rfl
  generalize hb : s.fet a 12 0 = b at *
  simp only [go_sem,Nat.reduceAdd,Nat.reduceSub,Nat.reduceMul,Nat.reduceEqDiff,Nat.reduceLeDiff,Nat.reduceLT,↓reduceIte,Int.reduceToNat,reduceCtorEq,Int.reduceLT,Int.reduceLE,Int.reduceGT,Int.reduceGE,Int.reduceEq,Int.reduceNe,Int.reduceNeg,Int.reduceAdd,Int.reduceSub]
  refine rK_use (enters_of Tryz.func96 rfl (by decide)) (ACalls.pure_use (decode_c b (by omega)) rfl (by simp [Dec.av, AV.lt, ltL, Ins.av, Ins.cells])) ?_
  simp only [go_sem,Nat.reduceAdd,Nat.reduceSub,Nat.reduceMul,Nat.reduceEqDiff,Nat.reduceLeDiff,Nat.reduceLT,↓reduceIte,Int.reduceToNat,reduceCtorEq,Int.reduceLT,Int.reduceLE,Int.reduceGT,Int.reduceGE,Int.reduceEq,Int.reduceNe,Int.reduceNeg,Int.reduceAdd,Int.reduceSub,Dec.av,Ins.av,Ins.cells]
  refine finv (by simp [AV.lt, ltL]) ?_ _
  rw [← hpost, sitC, hst]
  exact ⟨rfl, rfl⟩
end Go.Proofs.YtfiflailjbmlpaaGreatDoor
set_option maxRecDepth 100000
set_option linter.unusedVariables false
set_option linter.unusedSimpArgs false
namespace Go.Proofs.YtfiflailjbmlpaaGreatDoor
open Go.AM
def cmpI (a b : Int) : Int := if a < b then -1 else if b < a then 1 else 0
theorem isnan_c (a : Int) : ACalls Tryz.prog 133 [iv a] [] (fun o H => o = .ret (.bool false) ∧ H = []) := by
  refine ACalls.up ?_
  refine ACalls.intro (cs := []) (n := 6) Tryz.func133 rfl rfl rfl (by kernel_rfl) rfl ?_
  simp only [go_sem,Nat.reduceAdd,Nat.reduceSub,Nat.reduceMul,Nat.reduceEqDiff,Nat.reduceLeDiff,Nat.reduceLT,↓reduceIte,Int.reduceToNat,reduceCtorEq,Int.reduceLT,Int.reduceLE,Int.reduceGT,Int.reduceGE,Int.reduceEq,Int.reduceNe,Int.reduceNeg,Int.reduceAdd,Int.reduceSub]
  exact .done ⟨rfl, rfl⟩
theorem compare_c (a b : Int) : ACalls Tryz.prog 119 [iv a, iv b] [] (fun o H => o = .ret (iv (cmpI a b)) ∧ H = []) := by
  refine ACalls.up ?_
  refine ACalls.intro (cs := []) (n := 20) Tryz.func119 rfl rfl rfl (by kernel_rfl) rfl ?_
  generalize hpost : (fun (o : Out) (H : Heap) => o = Out.ret (iv (cmpI a b)) ∧ H = []) = post
  have fin : ∀ n H, n = cmpI a b → Up 0 post (.ret (iv n)) H := fun n H h => finv rfl (by rw [← hpost, ← h]; exact ⟨rfl, rfl⟩) H
  simp only [go_sem,Nat.reduceAdd,Nat.reduceSub,Nat.reduceMul,Nat.reduceEqDiff,Nat.reduceLeDiff,Nat.reduceLT,↓reduceIte,Int.reduceToNat,reduceCtorEq,Int.reduceLT,Int.reduceLE,Int.reduceGT,Int.reduceGE,Int.reduceEq,Int.reduceNe,Int.reduceNeg,Int.reduceAdd,Int.reduceSub]
  refine rK_use (enters_of Tryz.func133 rfl (by decide)) (ACalls.pure_use (isnan_c a) rfl rfl) ?_
  simp only [go_sem,Nat.reduceAdd,Nat.reduceSub,Nat.reduceMul,Nat.reduceEqDiff,Nat.reduceLeDiff,Nat.reduceLT,↓reduceIte,Int.reduceToNat,reduceCtorEq,Int.reduceLT,Int.reduceLE,Int.reduceGT,Int.reduceGE,Int.reduceEq,Int.reduceNe,Int.reduceNeg,Int.reduceAdd,Int.reduceSub]
  refine rK_use (enters_of Tryz.func133 rfl (by decide)) (ACalls.pure_use (isnan_c b) rfl rfl) ?_
  simp only [go_sem,Nat.reduceAdd,Nat.reduceSub,Nat.reduceMul,Nat.reduceEqDiff,Nat.reduceLeDiff,Nat.reduceLT,↓reduceIte,Int.reduceToNat,reduceCtorEq,Int.reduceLT,Int.reduceLE,Int.reduceGT,Int.reduceGE,Int.reduceEq,Int.reduceNe,Int.reduceNeg,Int.reduceAdd,Int.reduceSub]
  refine condD_dec (fun h1 => ?_) (fun h1 => ?_)
  · simp only [go_sem,Nat.reduceAdd,Nat.reduceSub,Nat.reduceMul,Nat.reduceEqDiff,Nat.reduceLeDiff,Nat.reduceLT,↓reduceIte,Int.reduceToNat,reduceCtorEq,Int.reduceLT,Int.reduceLE,Int.reduceGT,Int.reduceGE,Int.reduceEq,Int.reduceNe,Int.reduceNeg,Int.reduceAdd,Int.reduceSub]
    exact fin _ _ (by rw [cmpI, if_pos h1])
  · simp only [go_sem,Nat.reduceAdd,Nat.reduceSub,Nat.reduceMul,Nat.reduceEqDiff,Nat.reduceLeDiff,Nat.reduceLT,↓reduceIte,Int.reduceToNat,reduceCtorEq,Int.reduceLT,Int.reduceLE,Int.reduceGT,Int.reduceGE,Int.reduceEq,Int.reduceNe,Int.reduceNeg,Int.reduceAdd,Int.reduceSub]
    refine condD_dec (fun h2 => ?_) (fun h2 => ?_)
    · simp only [go_sem,Nat.reduceAdd,Nat.reduceSub,Nat.reduceMul,Nat.reduceEqDiff,Nat.reduceLeDiff,Nat.reduceLT,↓reduceIte,Int.reduceToNat,reduceCtorEq,Int.reduceLT,Int.reduceLE,Int.reduceGT,Int.reduceGE,Int.reduceEq,Int.reduceNe,Int.reduceNeg,Int.reduceAdd,Int.reduceSub]
      exact fin _ _ (by rw [cmpI, if_neg h1, if_pos h2])
    · simp only [go_sem,Nat.reduceAdd,Nat.reduceSub,Nat.reduceMul,Nat.reduceEqDiff,Nat.reduceLeDiff,Nat.reduceLT,↓reduceIte,Int.reduceToNat,reduceCtorEq,Int.reduceLT,Int.reduceLE,Int.reduceGT,Int.reduceGE,Int.reduceEq,Int.reduceNe,Int.reduceNeg,Int.reduceAdd,Int.reduceSub]
      exact fin _ _ (by rw [cmpI, if_neg h1, if_neg h2])
theorem findkey_c (x : Pt) : ACalls Tryz.prog 94 [.agg (rp x)] [] (fun o H => o = .ret (iv x.at_) ∧ H = []) := by
  refine ACalls.up ?_
  refine ACalls.intro (cs := []) (n := 5) Tryz.func94 rfl rfl rfl (by kernel_rfl) rfl ?_
  simp only [go_sem,Nat.reduceAdd,Nat.reduceSub,Nat.reduceMul,Nat.reduceEqDiff,Nat.reduceLeDiff,Nat.reduceLT,↓reduceIte,Int.reduceToNat,reduceCtorEq,Int.reduceLT,Int.reduceLE,Int.reduceGT,Int.reduceGE,Int.reduceEq,Int.reduceNe,Int.reduceNeg,Int.reduceAdd,Int.reduceSub]
  exact finv rfl ⟨rfl, rfl⟩ _
def keyB : Blk := .rows 1 [[.func (.func 94) [] []]]
theorem searchcmp_c (x : Pt) (a : Int) : ACalls Tryz.prog 118 [.agg (rp x), iv a, .ptr 0 0 0] [keyB] (fun o H => o = .ret (iv (cmpI x.at_ a)) ∧ H = [keyB]) := by
  refine ACalls.up ?_
  refine ACalls.intro (cs := []) (n := 11) Tryz.func118 rfl rfl rfl (by kernel_rfl) rfl ?_
  simp only [go_sem,Nat.reduceAdd,Nat.reduceSub,Nat.reduceMul,Nat.reduceEqDiff,Nat.reduceLeDiff,Nat.reduceLT,↓reduceIte,Int.reduceToNat,reduceCtorEq,Int.reduceLT,Int.reduceLE,Int.reduceGT,Int.reduceGE,Int.reduceEq,Int.reduceNe,Int.reduceNeg,Int.reduceAdd,Int.reduceSub,keyB]
  refine rK_use (enters_of Tryz.func94 rfl (by decide)) (ACalls.pure_use (findkey_c x) rfl rfl) ?_
  simp only [go_sem,Nat.reduceAdd,Nat.reduceSub,Nat.reduceMul,Nat.reduceEqDiff,Nat.reduceLeDiff,Nat.reduceLT,↓reduceIte,Int.reduceToNat,reduceCtorEq,Int.reduceLT,Int.reduceLE,Int.reduceGT,Int.reduceGE,Int.reduceEq,Int.reduceNe,Int.reduceNeg,Int.reduceAdd,Int.reduceSub]
  refine rK_use (enters_of Tryz.func119 rfl (by decide)) (ACalls.pure_use (compare_c x.at_ a) rfl rfl) ?_
  simp only [go_sem,Nat.reduceAdd,Nat.reduceSub,Nat.reduceMul,Nat.reduceEqDiff,Nat.reduceLeDiff,Nat.reduceLT,↓reduceIte,Int.reduceToNat,reduceCtorEq,Int.reduceLT,Int.reduceLE,Int.reduceGT,Int.reduceGE,Int.reduceEq,Int.reduceNe,Int.reduceNeg,Int.reduceAdd,Int.reduceSub]
  exact .gc 1 (Nat.le_refl _) (by simp) rfl (by simp [Blk.lt, ltL, AV.lt]) (.done ⟨rfl, rfl⟩)
theorem cmpI_lt (a b : Int) : cmpI a b < 0 ↔ a < b := by
  unfold cmpI
  repeat' split
  all_goals omega
theorem cmpI_eq (a b : Int) : cmpI a b = 0 ↔ a = b := by
  unfold cmpI
  repeat' split
  all_goals omega
def fnd (a : Int) (l : List Pt) : Bool := match l[lb a l]? with
  | some y => decide (y.at_ = a)
  | none => false
theorem bsearch_c (l : List Pt) (hs : Srt l) (hl : l.length ≤ 1000000) (a : Int) : ACalls Tryz.prog 117 [.view false 3 (l.map rp), iv a, .func (.func 118) [] [.ptr 0 0 0]] [keyB]
    (fun o H => o = .ret (.tuple [iv (lb a l), .bool (fnd a l)]) ∧ H = [keyB]) := by
  refine ACalls.up ?_
  refine ACalls.intro (cs := []) (n := 49) Tryz.func117 rfl rfl rfl (by kernel_rfl) rfl ?_
  generalize hpost : (fun (o : Out) (H : Heap) => o = Out.ret (.tuple [iv (lb a l), .bool (fnd a l)]) ∧ H = [keyB]) = post
  simp only [go_sem,Nat.reduceAdd,Nat.reduceSub,Nat.reduceMul,Nat.reduceEqDiff,Nat.reduceLeDiff,Nat.reduceLT,↓reduceIte,Int.reduceToNat,reduceCtorEq,Int.reduceLT,Int.reduceLE,Int.reduceGT,Int.reduceGE,Int.reduceEq,Int.reduceNe,Int.reduceNeg,Int.reduceAdd,Int.reduceSub,List.length_map]
  refine loop_fam (fun q : Nat × Nat => ((((((Ch.nil.put 0 (.view false 3 (l.map rp))).put 1 (iv a)).put 2 (.func (.func 118) [] [.ptr 0 0 0])).put 8 (iv l.length)).put 9 (iv q.1)).put 10 (iv q.2)))
    (fun _ => [keyB]) (fun q => q.2 - q.1) (fun q => q.1 ≤ q.2 ∧ q.2 ≤ l.length ∧ (∀ (k : Nat) (x : Pt), k < q.1 → l[k]? = some x → x.at_ < a) ∧ (∀ (k : Nat) (x : Pt), q.2 ≤ k → l[k]? = some x → a ≤ x.at_)) (0, l.length) (by kernel_rfl)
    ⟨Nat.zero_le _, Nat.le_refl _, fun k x hk => absurd hk (Nat.not_lt_zero _), fun k x hk hx => absurd (List.getElem?_eq_some_iff.1 hx).1 (by simp at hk; omega)⟩ (Wk.slots' rfl (by simp [wkS, Ch.get])) ?_
  rintro ⟨i, j⟩ ⟨hij, hj, h1, h2⟩ K hK
  simp only at hij hj h1 h2
  simp only [go_sem,Nat.reduceAdd,Nat.reduceSub,Nat.reduceMul,Nat.reduceEqDiff,Nat.reduceLeDiff,Nat.reduceLT,↓reduceIte,Int.reduceToNat,reduceCtorEq,Int.reduceLT,Int.reduceLE,Int.reduceGT,Int.reduceGE,Int.reduceEq,Int.reduceNe,Int.reduceNeg,Int.reduceAdd,Int.reduceSub]
  refine condD_dec (fun hc => ?_) (fun hc => ?_)
  · have e1 : iw .i64 ((i : Int) + j) = ((i + j : Nat) : Int) := by rw [iw64] <;> omega
    have e2 : iw .u64 ((i + j : Nat) : Int) = ((i + j : Nat) : Int) := by rw [iwu64]; omega
    have e3 : ((i + j : Nat) : Int).fdiv (2 ^ min 1 64) = (((i + j) / 2 : Nat) : Int) := by
      rw [show min 1 64 = 1 from rfl, Int.pow_one, Int.fdiv_eq_ediv_of_nonneg _ (by decide)]; omega
    have e4 : iw .i64 (((i + j) / 2 : Nat) : Int) = (((i + j) / 2 : Nat) : Int) := by rw [iw64] <;> omega
    obtain ⟨h, hh⟩ : ∃ h, h = (i + j) / 2 := ⟨_, rfl⟩
    rw [← hh] at e3 e4
    have e5 : iw .i64 ((h : Int) + 1) = ((h + 1 : Nat) : Int) := by rw [iw64] <;> omega
    obtain ⟨x, hx⟩ := at_lt (l := l) (i := h) (by omega)
    have g1 : (0 : Int) ≤ h ∧ (h : Int) < l.length := ⟨by omega, by omega⟩
    simp only [go_sem,Nat.reduceAdd,Nat.reduceSub,Nat.reduceMul,Nat.reduceEqDiff,Nat.reduceLeDiff,Nat.reduceLT,↓reduceIte,Int.reduceToNat,reduceCtorEq,Int.reduceLT,Int.reduceLE,Int.reduceGT,Int.reduceGE,Int.reduceEq,Int.reduceNe,Int.reduceNeg,Int.reduceAdd,Int.reduceSub,e1,e2,e3,e4,g1,List.length_map,List.getElem?_map,hx]
    refine rK_use (enters_of Tryz.func118 rfl (by decide)) (searchcmp_c x a) ?_
    simp only [go_sem,Nat.reduceAdd,Nat.reduceSub,Nat.reduceMul,Nat.reduceEqDiff,Nat.reduceLeDiff,Nat.reduceLT,↓reduceIte,Int.reduceToNat,reduceCtorEq,Int.reduceLT,Int.reduceLE,Int.reduceGT,Int.reduceGE,Int.reduceEq,Int.reduceNe,Int.reduceNeg,Int.reduceAdd,Int.reduceSub]
    refine condD_dec (fun hd => ?_) (fun hd => ?_)
    · rw [cmpI_lt] at hd
      simp only [go_sem,Nat.reduceAdd,Nat.reduceSub,Nat.reduceMul,Nat.reduceEqDiff,Nat.reduceLeDiff,Nat.reduceLT,↓reduceIte,Int.reduceToNat,reduceCtorEq,Int.reduceLT,Int.reduceLE,Int.reduceGT,Int.reduceGE,Int.reduceEq,Int.reduceNe,Int.reduceNeg,Int.reduceAdd,Int.reduceSub,e5]
      refine hK (h + 1, j) _ _ ⟨by simp; omega, hj, fun k y hk hy => ?_, h2⟩ (by simp; omega) (Wk.slots' rfl (by simp [wkS, Ch.get]))
      rcases Nat.lt_or_eq_of_le (Nat.le_of_lt_succ hk) with hk | rfl
      · have := srt_lt hs hk hy hx; omega
      · rw [hx] at hy; cases hy; exact hd
    · rw [cmpI_lt] at hd
      simp only [go_sem,Nat.reduceAdd,Nat.reduceSub,Nat.reduceMul,Nat.reduceEqDiff,Nat.reduceLeDiff,Nat.reduceLT,↓reduceIte,Int.reduceToNat,reduceCtorEq,Int.reduceLT,Int.reduceLE,Int.reduceGT,Int.reduceGE,Int.reduceEq,Int.reduceNe,Int.reduceNeg,Int.reduceAdd,Int.reduceSub]
      refine hK (i, h) _ _ ⟨by simp; omega, by simp; omega, h1, fun k y hk hy => ?_⟩ (by simp; omega) (Wk.slots' rfl (by simp [wkS, Ch.get]))
      rcases Nat.lt_or_eq_of_le hk with hk | rfl
      · have := srt_lt hs hk hx hy; omega
      · rw [hx] at hy; cases hy; omega
  · simp only [go_sem,Nat.reduceAdd,Nat.reduceSub,Nat.reduceMul,Nat.reduceEqDiff,Nat.reduceLeDiff,Nat.reduceLT,↓reduceIte,Int.reduceToNat,reduceCtorEq,Int.reduceLT,Int.reduceLE,Int.reduceGT,Int.reduceGE,Int.reduceEq,Int.reduceNe,Int.reduceNeg,Int.reduceAdd,Int.reduceSub]
    have hji : j = i := by omega
    subst hji
    have hlb : lb a l = j := lb_eq hs hj h1 (fun x hx => h2 j x (Nat.le_refl _) hx)
    refine gD_dec (fun hd => ?_) (fun hd => ?_)
    · obtain ⟨x, hx⟩ := at_lt (l := l) (i := j) (by omega)
      have g1 : (0 : Int) ≤ j ∧ (j : Int) < l.length := ⟨by omega, by omega⟩
      simp only [go_sem,Nat.reduceAdd,Nat.reduceSub,Nat.reduceMul,Nat.reduceEqDiff,Nat.reduceLeDiff,Nat.reduceLT,↓reduceIte,Int.reduceToNat,reduceCtorEq,Int.reduceLT,Int.reduceLE,Int.reduceGT,Int.reduceGE,Int.reduceEq,Int.reduceNe,Int.reduceNeg,Int.reduceAdd,Int.reduceSub,hd,g1,List.length_map,List.getElem?_map,hx]
      refine rK_use (enters_of Tryz.func118 rfl (by decide)) (searchcmp_c x a) ?_
      simp only [go_sem,Nat.reduceAdd,Nat.reduceSub,Nat.reduceMul,Nat.reduceEqDiff,Nat.reduceLeDiff,Nat.reduceLT,↓reduceIte,Int.reduceToNat,reduceCtorEq,Int.reduceLT,Int.reduceLE,Int.reduceGT,Int.reduceGE,Int.reduceEq,Int.reduceNe,Int.reduceNeg,Int.reduceAdd,Int.reduceSub,hd]
      refine .done ?_
      rw [← hpost]
      refine ⟨?_, rfl⟩
      rw [fnd, hlb, hx]
      simp only [cmpI_eq]
    · simp only [go_sem,Nat.reduceAdd,Nat.reduceSub,Nat.reduceMul,Nat.reduceEqDiff,Nat.reduceLeDiff,Nat.reduceLT,↓reduceIte,Int.reduceToNat,reduceCtorEq,Int.reduceLT,Int.reduceLE,Int.reduceGT,Int.reduceGE,Int.reduceEq,Int.reduceNe,Int.reduceNeg,Int.reduceAdd,Int.reduceSub,hd]
      refine .done ?_
      rw [← hpost]
      refine ⟨?_, rfl⟩
      rw [fnd, hlb, List.getElem?_eq_none (by omega)]
theorem search_c (l : List Pt) (hs : Srt l) (hl : l.length ≤ 1000000) (a : Int) : ACalls Tryz.prog 93 [.view false 3 (l.map rp), iv a, .func (.func 94) [] []] [] (fun o H => o = .ret (.tuple [iv (lb a l), .bool (fnd a l)]) ∧ H = []) := by
  refine ACalls.up ?_
  refine ACalls.intro (cs := []) (n := 14) Tryz.func93 rfl rfl rfl (by kernel_rfl) rfl ?_
  simp only [go_sem,Nat.reduceAdd,Nat.reduceSub,Nat.reduceMul,Nat.reduceEqDiff,Nat.reduceLeDiff,Nat.reduceLT,↓reduceIte,Int.reduceToNat,reduceCtorEq,Int.reduceLT,Int.reduceLE,Int.reduceGT,Int.reduceGE,Int.reduceEq,Int.reduceNe,Int.reduceNeg,Int.reduceAdd,Int.reduceSub]
  refine rK_use (enters_of Tryz.func117 rfl (by decide)) (bsearch_c l hs hl a) ?_
  simp only [go_sem,Nat.reduceAdd,Nat.reduceSub,Nat.reduceMul,Nat.reduceEqDiff,Nat.reduceLeDiff,Nat.reduceLT,↓reduceIte,Int.reduceToNat,reduceCtorEq,Int.reduceLT,Int.reduceLE,Int.reduceGT,Int.reduceGE,Int.reduceEq,Int.reduceNe,Int.reduceNeg,Int.reduceAdd,Int.reduceSub]
  exact finv rfl ⟨rfl, rfl⟩ _
theorem find_c (l : List Pt) (hs : Srt l) (hl : l.length ≤ 1000000) (a : Int) : ACalls Tryz.prog 48 [.view false 3 (l.map rp), iv a] [] (fun o H => o = .ret (.tuple [iv (lb a l), .bool (fnd a l)]) ∧ H = []) := by
  refine ACalls.up ?_
  refine ACalls.intro (cs := []) (n := 11) Tryz.func48 rfl rfl rfl (by kernel_rfl) rfl ?_
  simp only [go_sem,Nat.reduceAdd,Nat.reduceSub,Nat.reduceMul,Nat.reduceEqDiff,Nat.reduceLeDiff,Nat.reduceLT,↓reduceIte,Int.reduceToNat,reduceCtorEq,Int.reduceLT,Int.reduceLE,Int.reduceGT,Int.reduceGE,Int.reduceEq,Int.reduceNe,Int.reduceNeg,Int.reduceAdd,Int.reduceSub]
  refine rK_use (enters_of Tryz.func93 rfl (by decide)) (ACalls.pure_use (search_c l hs hl a) rfl rfl) ?_
  simp only [go_sem,Nat.reduceAdd,Nat.reduceSub,Nat.reduceMul,Nat.reduceEqDiff,Nat.reduceLeDiff,Nat.reduceLT,↓reduceIte,Int.reduceToNat,reduceCtorEq,Int.reduceLT,Int.reduceLE,Int.reduceGT,Int.reduceGE,Int.reduceEq,Int.reduceNe,Int.reduceNeg,Int.reduceAdd,Int.reduceSub]
  exact finv rfl ⟨rfl, rfl⟩ _
end Go.Proofs.YtfiflailjbmlpaaGreatDoor
set_option maxRecDepth 100000
set_option linter.unusedVariables false
set_option linter.unusedSimpArgs false
namespace Go.Proofs.YtfiflailjbmlpaaGreatDoor
open Go.AM
theorem check1_c (s : Sp) (hs : s.ok) (x : Pt) : ACalls Tryz.prog 63 [.agg (rp x), .ptr 0 0 0] [spB (.view false 1 (s.perm.map r1)) (.view false 1 (s.byt.map rb))]
    (fun o H => o = .ret (.bool (!decide ((stand s x.at_).e = 0))) ∧ H = [spB (.view false 1 (s.perm.map r1)) (.view false 1 (s.byt.map rb))]) := by
  refine ACalls.up ?_
  refine ACalls.intro (cs := []) (n := 15) Tryz.func63 rfl rfl rfl (by kernel_rfl) rfl ?_
  simp only [go_sem,Nat.reduceAdd,Nat.reduceSub,Nat.reduceMul,Nat.reduceEqDiff,Nat.reduceLeDiff,Nat.reduceLT,↓reduceIte,Int.reduceToNat,reduceCtorEq,Int.reduceLT,Int.reduceLE,Int.reduceGT,Int.reduceGE,Int.reduceEq,Int.reduceNe,Int.reduceNeg,Int.reduceAdd,Int.reduceSub,spB]
  refine rK_use (enters_of Tryz.func49 rfl (by decide)) (ACalls.pure_use (standing_c s hs x.at_) rfl (by simp [sitC, Ins.cells, AV.lt, ltL])) ?_
  simp only [go_sem,Nat.reduceAdd,Nat.reduceSub,Nat.reduceMul,Nat.reduceEqDiff,Nat.reduceLeDiff,Nat.reduceLT,↓reduceIte,Int.reduceToNat,reduceCtorEq,Int.reduceLT,Int.reduceLE,Int.reduceGT,Int.reduceGE,Int.reduceEq,Int.reduceNe,Int.reduceNeg,Int.reduceAdd,Int.reduceSub,sitC,Ins.cells]
  exact .gc 1 (Nat.le_refl _) (by simp) rfl (by simp [Blk.lt, ltL, AV.lt]) (.done ⟨rfl, rfl⟩)
def bad0 (s : Sp) : List Pt → Nat → Int
  | [], _ => -1
  | x :: l, i => if (stand s x.at_).e = 0 then bad0 s l (i + 1) else i
theorem bad0_lt (s : Sp) : ∀ (l : List Pt) (i : Nat), bad0 s l i < 0 ↔ ∀ x ∈ l, (stand s x.at_).e = 0
  | [], i => by simp [bad0]
  | x :: l, i => by
    have := bad0_lt s l (i + 1)
    rw [bad0, List.forall_mem_cons]
    split
    · rename_i h; rw [this]; exact ⟨fun k => ⟨h, k⟩, fun k => k.2⟩
    · rename_i h; exact ⟨fun k => by omega, fun k => absurd k.1 h⟩
theorem index_c (s : Sp) (hs : s.ok) (l : List Pt) (hl : l.length ≤ 1000000) : ACalls Tryz.prog 107 [.view false 3 (l.map rp), .func (.func 63) [] [.ptr 0 0 0]] [spB (.view false 1 (s.perm.map r1)) (.view false 1 (s.byt.map rb))]
    (fun o H => o = .ret (iv (bad0 s l 0)) ∧ H = [spB (.view false 1 (s.perm.map r1)) (.view false 1 (s.byt.map rb))]) := by
  refine ACalls.up ?_
  refine ACalls.intro (cs := []) (n := 19) Tryz.func107 rfl rfl rfl (by kernel_rfl) rfl ?_
  generalize hpost : (fun (o : Out) (H : Heap) => o = Out.ret (iv (bad0 s l 0)) ∧ H = [spB (.view false 1 (s.perm.map r1)) (.view false 1 (s.byt.map rb))]) = post
  simp only [go_sem,Nat.reduceAdd,Nat.reduceSub,Nat.reduceMul,Nat.reduceEqDiff,Nat.reduceLeDiff,Nat.reduceLT,↓reduceIte,Int.reduceToNat,reduceCtorEq,Int.reduceLT,Int.reduceLE,Int.reduceGT,Int.reduceGE,Int.reduceEq,Int.reduceNe,Int.reduceNeg,Int.reduceAdd,Int.reduceSub,List.length_map]
  refine loop_fam (fun i : Nat => ((((Ch.nil.put 0 (.view false 3 (l.map rp))).put 1 (.func (.func 63) [] [.ptr 0 0 0])).put 7 (iv l.length)).put 8 (iv i)))
    (fun _ => [spB (.view false 1 (s.perm.map r1)) (.view false 1 (s.byt.map rb))]) (fun i => l.length - i) (fun i => i ≤ l.length ∧ bad0 s l 0 = bad0 s (l.drop i) i) 0 (by kernel_rfl) ⟨Nat.zero_le _, rfl⟩ (Wk.slots' rfl (by simp [wkS, Ch.get])) ?_
  rintro i ⟨hi, hb⟩ K hK
  simp only [go_sem,Nat.reduceAdd,Nat.reduceSub,Nat.reduceMul,Nat.reduceEqDiff,Nat.reduceLeDiff,Nat.reduceLT,↓reduceIte,Int.reduceToNat,reduceCtorEq,Int.reduceLT,Int.reduceLE,Int.reduceGT,Int.reduceGE,Int.reduceEq,Int.reduceNe,Int.reduceNeg,Int.reduceAdd,Int.reduceSub]
  refine condD_dec (fun hc => ?_) (fun hc => ?_)
  · obtain ⟨x, hx⟩ := at_lt (l := l) (i := i) (by omega)
    have e1 : iw .i64 ((i : Int) + 1) = ((i + 1 : Nat) : Int) := by rw [iw64] <;> omega
    have g1 : (0 : Int) ≤ i ∧ (i : Int) < l.length := ⟨by omega, by omega⟩
    rw [drop_at hx, bad0] at hb
    simp only [go_sem,Nat.reduceAdd,Nat.reduceSub,Nat.reduceMul,Nat.reduceEqDiff,Nat.reduceLeDiff,Nat.reduceLT,↓reduceIte,Int.reduceToNat,reduceCtorEq,Int.reduceLT,Int.reduceLE,Int.reduceGT,Int.reduceGE,Int.reduceEq,Int.reduceNe,Int.reduceNeg,Int.reduceAdd,Int.reduceSub,g1,List.length_map,List.getElem?_map,hx]
    refine rK_use (enters_of Tryz.func63 rfl (by decide)) (check1_c s hs x) ?_
    rcases Decidable.em ((stand s x.at_).e = 0) with h0 | h0
    · rw [decide_eq_true h0, Bool.not_true]
      rw [if_pos h0] at hb
      simp only [go_sem,Nat.reduceAdd,Nat.reduceSub,Nat.reduceMul,Nat.reduceEqDiff,Nat.reduceLeDiff,Nat.reduceLT,↓reduceIte,Int.reduceToNat,reduceCtorEq,Int.reduceLT,Int.reduceLE,Int.reduceGT,Int.reduceGE,Int.reduceEq,Int.reduceNe,Int.reduceNeg,Int.reduceAdd,Int.reduceSub,e1]
      exact hK (i + 1) _ _ ⟨by omega, hb⟩ (by omega) (Wk.slots' rfl (by simp [wkS, Ch.get]))
    · rw [decide_eq_false h0, Bool.not_false]
      rw [if_neg h0] at hb
      simp only [go_sem,Nat.reduceAdd,Nat.reduceSub,Nat.reduceMul,Nat.reduceEqDiff,Nat.reduceLeDiff,Nat.reduceLT,↓reduceIte,Int.reduceToNat,reduceCtorEq,Int.reduceLT,Int.reduceLE,Int.reduceGT,Int.reduceGE,Int.reduceEq,Int.reduceNe,Int.reduceNeg,Int.reduceAdd,Int.reduceSub]
      refine .done ?_
      rw [← hpost, hb]
      exact ⟨rfl, rfl⟩
  · simp only [go_sem,Nat.reduceAdd,Nat.reduceSub,Nat.reduceMul,Nat.reduceEqDiff,Nat.reduceLeDiff,Nat.reduceLT,↓reduceIte,Int.reduceToNat,reduceCtorEq,Int.reduceLT,Int.reduceLE,Int.reduceGT,Int.reduceGE,Int.reduceEq,Int.reduceNe,Int.reduceNeg,Int.reduceAdd,Int.reduceSub]
    have : i = l.length := by omega
    subst this
    rw [List.drop_length, bad0] at hb
    refine .done ?_
    rw [← hpost, hb]
    exact ⟨rfl, rfl⟩
theorem contains_c (s : Sp) (hs : s.ok) (l : List Pt) (hl : l.length ≤ 1000000) : ACalls Tryz.prog 62 [.view false 3 (l.map rp), .func (.func 63) [] [.ptr 0 0 0]] [spB (.view false 1 (s.perm.map r1)) (.view false 1 (s.byt.map rb))]
    (fun o H => o = .ret (.bool (decide (0 ≤ bad0 s l 0))) ∧ H = [spB (.view false 1 (s.perm.map r1)) (.view false 1 (s.byt.map rb))]) := by
  refine ACalls.up ?_
  refine ACalls.intro (cs := []) (n := 9) Tryz.func62 rfl rfl rfl (by kernel_rfl) rfl ?_
  simp only [go_sem,Nat.reduceAdd,Nat.reduceSub,Nat.reduceMul,Nat.reduceEqDiff,Nat.reduceLeDiff,Nat.reduceLT,↓reduceIte,Int.reduceToNat,reduceCtorEq,Int.reduceLT,Int.reduceLE,Int.reduceGT,Int.reduceGE,Int.reduceEq,Int.reduceNe,Int.reduceNeg,Int.reduceAdd,Int.reduceSub]
  refine rK_use (enters_of Tryz.func107 rfl (by decide)) (index_c s hs l hl) ?_
  simp only [go_sem,Nat.reduceAdd,Nat.reduceSub,Nat.reduceMul,Nat.reduceEqDiff,Nat.reduceLeDiff,Nat.reduceLT,↓reduceIte,Int.reduceToNat,reduceCtorEq,Int.reduceLT,Int.reduceLE,Int.reduceGT,Int.reduceGE,Int.reduceEq,Int.reduceNe,Int.reduceNeg,Int.reduceAdd,Int.reduceSub]
  exact .done ⟨rfl, rfl⟩
theorem pcheck_c (p : Pd) : ACalls Tryz.prog 25 [p.av] [] (fun o H => o = .ret (iv p.chk) ∧ H = []) := by
  refine ACalls.up ?_
  refine ACalls.intro (cs := []) (n := 79) Tryz.func25 rfl rfl rfl (by kernel_rfl) rfl ?_
  generalize hpost : (fun (o : Out) (H : Heap) => o = Out.ret (iv p.chk) ∧ H = []) = post
  have fin : ∀ n H, n = p.chk → Up 0 post (.ret (iv n)) H := fun n H h => finv rfl (by rw [← hpost, ← h]; exact ⟨rfl, rfl⟩) H
  simp only [go_sem,Nat.reduceAdd,Nat.reduceSub,Nat.reduceMul,Nat.reduceEqDiff,Nat.reduceLeDiff,Nat.reduceLT,↓reduceIte,Int.reduceToNat,reduceCtorEq,Int.reduceLT,Int.reduceLE,Int.reduceGT,Int.reduceGE,Int.reduceEq,Int.reduceNe,Int.reduceNeg,Int.reduceAdd,Int.reduceSub,Pd.av]
  refine rK_use (enters_of Tryz.func61 rfl (by decide)) (ACalls.pure_use (mcheck_c p.s) rfl rfl) ?_
  by_cases hs : p.s.ok
  rotate_left
  · rw [Sp.chk, if_neg hs]
    simp only [go_sem,Nat.reduceAdd,Nat.reduceSub,Nat.reduceMul,Nat.reduceEqDiff,Nat.reduceLeDiff,Nat.reduceLT,↓reduceIte,Int.reduceToNat,reduceCtorEq,Int.reduceLT,Int.reduceLE,Int.reduceGT,Int.reduceGE,Int.reduceEq,Int.reduceNe,Int.reduceNeg,Int.reduceAdd,Int.reduceSub]
    exact fin 70 _ (Pd.chk_no fun h => hs h.sok).symm
  rw [Sp.chk_ok hs]
  simp only [go_sem,Nat.reduceAdd,Nat.reduceSub,Nat.reduceMul,Nat.reduceEqDiff,Nat.reduceLeDiff,Nat.reduceLT,↓reduceIte,Int.reduceToNat,reduceCtorEq,Int.reduceLT,Int.reduceLE,Int.reduceGT,Int.reduceGE,Int.reduceEq,Int.reduceNe,Int.reduceNeg,Int.reduceAdd,Int.reduceSub,List.length_map]
  refine condD_dec (fun hl => ?_) (fun hl => ?_)
  · simp only [go_sem,Nat.reduceAdd,Nat.reduceSub,Nat.reduceMul,Nat.reduceEqDiff,Nat.reduceLeDiff,Nat.reduceLT,↓reduceIte,Int.reduceToNat,reduceCtorEq,Int.reduceLT,Int.reduceLE,Int.reduceGT,Int.reduceGE,Int.reduceEq,Int.reduceNe,Int.reduceNeg,Int.reduceAdd,Int.reduceSub]
    exact fin 70 _ (Pd.chk_no fun h => by have := h.len; omega).symm
  simp only [go_sem,Nat.reduceAdd,Nat.reduceSub,Nat.reduceMul,Nat.reduceEqDiff,Nat.reduceLeDiff,Nat.reduceLT,↓reduceIte,Int.reduceToNat,reduceCtorEq,Int.reduceLT,Int.reduceLE,Int.reduceGT,Int.reduceGE,Int.reduceEq,Int.reduceNe,Int.reduceNeg,Int.reduceAdd,Int.reduceSub,List.length_map]
  have hbl := byt_len hs
  refine loop_fam (fun i : Nat => ((((Ch.nil.put 1 (.ptr 0 0 0)).put 17 (.view false 3 (p.l.map rp))).put 18 (iv p.l.length)).put 19 (iv i)))
    (fun _ => [.rows 3 [[.view false 1 (p.s.perm.map r1), .view false 1 (p.s.byt.map rb), .view false 3 (p.l.map rp)]]]) (fun i => p.l.length - i) (fun i => i ≤ p.l.length ∧ ∀ k, k < i → okAt p.s p.l k) 0 (by kernel_rfl) ⟨Nat.zero_le _, fun k hk => absurd hk (Nat.not_lt_zero _)⟩ (Wk.slots' rfl (by simp [wkS, Ch.get])) ?_
  rintro i ⟨hi, ha⟩ K hK
  simp only [go_sem,Nat.reduceAdd,Nat.reduceSub,Nat.reduceMul,Nat.reduceEqDiff,Nat.reduceLeDiff,Nat.reduceLT,↓reduceIte,Int.reduceToNat,reduceCtorEq,Int.reduceLT,Int.reduceLE,Int.reduceGT,Int.reduceGE,Int.reduceEq,Int.reduceNe,Int.reduceNeg,Int.reduceAdd,Int.reduceSub]
  refine condD_dec (fun hc => ?_) (fun hc => ?_)
  · obtain ⟨x, hx⟩ := at_lt (l := p.l) (i := i) (by omega)
    have e1 : iw .i64 ((i : Int) + 1) = ((i + 1 : Nat) : Int) := by rw [iw64] <;> omega
    have g1 : (0 : Int) ≤ i ∧ (i : Int) < p.l.length := ⟨by omega, by omega⟩
    have bad : ¬ okAt p.s p.l i → ¬ p.ok := fun h hp => h ((okAt_all.2 ⟨hp.sor, hp.fits⟩) i (by omega))
    simp only [go_sem,Nat.reduceAdd,Nat.reduceSub,Nat.reduceMul,Nat.reduceEqDiff,Nat.reduceLeDiff,Nat.reduceLT,↓reduceIte,Int.reduceToNat,reduceCtorEq,Int.reduceLT,Int.reduceLE,Int.reduceGT,Int.reduceGE,Int.reduceEq,Int.reduceNe,Int.reduceNeg,Int.reduceAdd,Int.reduceSub,g1,List.length_map,List.getElem?_map,hx]
    refine draw [.qu 0 0, .qu 0 0, .qu 0 0, .qu 0 0, .qu 0 0, .qu 0 0, .qu 0 0, .qu 0 0, .qu 0 0, .qu 0 0, .qu 0 0, .qu 0 0, .qu 0 0, .qu 0 0, .qu 0 0, .qu 0 0, .qu 0 0, .qu 0 0, .qu 0 0, .qu 0 0, .qu 0 0, .qu 0 0, .qu 0 0, .qu 0 0, .qu 0 0, .qu 0 0, .qu 0 0, .qu 0 0, .qu 0 0, .qu 0 0, .qu 0 0, .qu 0 0, .qu 0 0, .qu 0 0, .qu 0 0, .qu 0 0, .qu 0 0, .qu 0 0, .qu 0 0, .qu 0 0, .qu 0 0, .qu 0 0, .qu 0 0, .qu 0 0, .qu 0 0, .qu 0 0, .qu 0 0, .qu 0 0] (by kernel_rfl) (by kernel_rfl) ?_
    simp only [go_sem,Nat.reduceAdd,Nat.reduceSub,Nat.reduceMul,Nat.reduceEqDiff,Nat.reduceLeDiff,Nat.reduceLT,↓reduceIte,Int.reduceToNat,reduceCtorEq,Int.reduceLT,Int.reduceLE,Int.reduceGT,Int.reduceGE,Int.reduceEq,Int.reduceNe,Int.reduceNeg,Int.reduceAdd,Int.reduceSub,List.length_map]
    have go : okAt p.s p.l i → ∀ s' H', Wk 0 79 s' H' (((((Ch.nil.put 1 (.ptr 0 0 0)).put 17 (.view false 3 (p.l.map rp))).put 18 (iv p.l.length)).put 19 (iv (i + 1 : Nat)))) [.rows 3 [[.view false 1 (p.s.perm.map r1), .view false 1 (p.s.byt.map rb), .view false 3 (p.l.map rp)]]] → K s' H' := fun h s' H' hw =>
      hK (i + 1) s' H' ⟨by omega, fun k hk => (Nat.lt_or_eq_of_le (Nat.le_of_lt_succ hk)).elim (fun hk => ha k hk) (fun e => e ▸ h)⟩ (by omega) hw
    refine dG_dec (fun c1 => ?_) (fun c1 => ?_)
    · simp only [go_sem,Nat.reduceAdd,Nat.reduceSub,Nat.reduceMul,Nat.reduceEqDiff,Nat.reduceLeDiff,Nat.reduceLT,↓reduceIte,Int.reduceToNat,reduceCtorEq,Int.reduceLT,Int.reduceLE,Int.reduceGT,Int.reduceGE,Int.reduceEq,Int.reduceNe,Int.reduceNeg,Int.reduceAdd,Int.reduceSub,c1]
      exact fin 70 _ (Pd.chk_no (bad fun h => by have := (h x hx).1.a0; omega)).symm
    simp only [go_sem,Nat.reduceAdd,Nat.reduceSub,Nat.reduceMul,Nat.reduceEqDiff,Nat.reduceLeDiff,Nat.reduceLT,↓reduceIte,Int.reduceToNat,reduceCtorEq,Int.reduceLT,Int.reduceLE,Int.reduceGT,Int.reduceGE,Int.reduceEq,Int.reduceNe,Int.reduceNeg,Int.reduceAdd,Int.reduceSub,c1,List.length_map]
    refine dG_dec (fun c2 => ?_) (fun c2 => ?_)
    · simp only [go_sem,Nat.reduceAdd,Nat.reduceSub,Nat.reduceMul,Nat.reduceEqDiff,Nat.reduceLeDiff,Nat.reduceLT,↓reduceIte,Int.reduceToNat,reduceCtorEq,Int.reduceLT,Int.reduceLE,Int.reduceGT,Int.reduceGE,Int.reduceEq,Int.reduceNe,Int.reduceNeg,Int.reduceAdd,Int.reduceSub,c2]
      exact fin 70 _ (Pd.chk_no (bad fun h => by have := (h x hx).1.a1; omega)).symm
    obtain ⟨b, hb⟩ := at_lt (l := p.s.byt) (i := x.at_.toNat) (by omega)
    have g2 : (0 : Int) ≤ x.at_ ∧ x.at_ < p.s.byt.length := ⟨by omega, by omega⟩
    simp only [go_sem,Nat.reduceAdd,Nat.reduceSub,Nat.reduceMul,Nat.reduceEqDiff,Nat.reduceLeDiff,Nat.reduceLT,↓reduceIte,Int.reduceToNat,reduceCtorEq,Int.reduceLT,Int.reduceLE,Int.reduceGT,Int.reduceGE,Int.reduceEq,Int.reduceNe,Int.reduceNeg,Int.reduceAdd,Int.reduceSub,c2]
    refine dG_dec (fun c3 => ?_) (fun c3 => ?_)
    · have e2 : iw .i64 ((i : Int) - 1) = ((i - 1 : Nat) : Int) := by rw [iw64] <;> omega
      obtain ⟨y, hy⟩ := at_lt (l := p.l) (i := i - 1) (by omega)
      have g3 : (0 : Int) ≤ ((i - 1 : Nat) : Int) ∧ ((i - 1 : Nat) : Int) < p.l.length := ⟨by omega, by omega⟩
      simp only [go_sem,Nat.reduceAdd,Nat.reduceSub,Nat.reduceMul,Nat.reduceEqDiff,Nat.reduceLeDiff,Nat.reduceLT,↓reduceIte,Int.reduceToNat,reduceCtorEq,Int.reduceLT,Int.reduceLE,Int.reduceGT,Int.reduceGE,Int.reduceEq,Int.reduceNe,Int.reduceNeg,Int.reduceAdd,Int.reduceSub,c3,e2,g3,hy,List.length_map,List.getElem?_map]
      refine dG_dec (fun c4 => ?_) (fun c4 => ?_)
      · simp only [go_sem,Nat.reduceAdd,Nat.reduceSub,Nat.reduceMul,Nat.reduceEqDiff,Nat.reduceLeDiff,Nat.reduceLT,↓reduceIte,Int.reduceToNat,reduceCtorEq,Int.reduceLT,Int.reduceLE,Int.reduceGT,Int.reduceGE,Int.reduceEq,Int.reduceNe,Int.reduceNeg,Int.reduceAdd,Int.reduceSub,c4]
        exact fin 70 _ (Pd.chk_no (bad fun h => by have := (h x hx).2 y (by omega) hy; omega)).symm
      simp only [go_sem,Nat.reduceAdd,Nat.reduceSub,Nat.reduceMul,Nat.reduceEqDiff,Nat.reduceLeDiff,Nat.reduceLT,↓reduceIte,Int.reduceToNat,reduceCtorEq,Int.reduceLT,Int.reduceLE,Int.reduceGT,Int.reduceGE,Int.reduceEq,Int.reduceNe,Int.reduceNeg,Int.reduceAdd,Int.reduceSub,c4]
      have hadj : ∀ y, 0 < i → p.l[i - 1]? = some y → y.at_ < x.at_ := fun z _ hz => by rw [hy] at hz; cases hz; omega
      refine dG_dec (fun c5 => ?_) (fun c5 => ?_)
      · simp only [go_sem,Nat.reduceAdd,Nat.reduceSub,Nat.reduceMul,Nat.reduceEqDiff,Nat.reduceLeDiff,Nat.reduceLT,↓reduceIte,Int.reduceToNat,reduceCtorEq,Int.reduceLT,Int.reduceLE,Int.reduceGT,Int.reduceGE,Int.reduceEq,Int.reduceNe,Int.reduceNeg,Int.reduceAdd,Int.reduceSub,c5]
        exact fin 70 _ (Pd.chk_no (bad fun h => by have := (h x hx).1.n1; omega)).symm
      simp only [go_sem,Nat.reduceAdd,Nat.reduceSub,Nat.reduceMul,Nat.reduceEqDiff,Nat.reduceLeDiff,Nat.reduceLT,↓reduceIte,Int.reduceToNat,reduceCtorEq,Int.reduceLT,Int.reduceLE,Int.reduceGT,Int.reduceGE,Int.reduceEq,Int.reduceNe,Int.reduceNeg,Int.reduceAdd,Int.reduceSub,c5]
      refine dG_dec (fun c6 => ?_) (fun c6 => ?_)
      · simp only [go_sem,Nat.reduceAdd,Nat.reduceSub,Nat.reduceMul,Nat.reduceEqDiff,Nat.reduceLeDiff,Nat.reduceLT,↓reduceIte,Int.reduceToNat,reduceCtorEq,Int.reduceLT,Int.reduceLE,Int.reduceGT,Int.reduceGE,Int.reduceEq,Int.reduceNe,Int.reduceNeg,Int.reduceAdd,Int.reduceSub,c6]
        exact fin 70 _ (Pd.chk_no (bad fun h => by have := (h x hx).1.n2; omega)).symm
      simp only [go_sem,Nat.reduceAdd,Nat.reduceSub,Nat.reduceMul,Nat.reduceEqDiff,Nat.reduceLeDiff,Nat.reduceLT,↓reduceIte,Int.reduceToNat,reduceCtorEq,Int.reduceLT,Int.reduceLE,Int.reduceGT,Int.reduceGE,Int.reduceEq,Int.reduceNe,Int.reduceNeg,Int.reduceAdd,Int.reduceSub,c6,g2,List.length_map,List.getElem?_map,hb]
      refine condD_dec (fun c7 => ?_) (fun c7 => ?_)
      · simp only [go_sem,Nat.reduceAdd,Nat.reduceSub,Nat.reduceMul,Nat.reduceEqDiff,Nat.reduceLeDiff,Nat.reduceLT,↓reduceIte,Int.reduceToNat,reduceCtorEq,Int.reduceLT,Int.reduceLE,Int.reduceGT,Int.reduceGE,Int.reduceEq,Int.reduceNe,Int.reduceNeg,Int.reduceAdd,Int.reduceSub]
        refine fin 70 _ (Pd.chk_no (bad fun h => ?_)).symm
        have := (h x hx).1.brk
        rw [hb] at this
        cases this
        exact absurd rfl c7
      · simp only [go_sem,Nat.reduceAdd,Nat.reduceSub,Nat.reduceMul,Nat.reduceEqDiff,Nat.reduceLeDiff,Nat.reduceLT,↓reduceIte,Int.reduceToNat,reduceCtorEq,Int.reduceLT,Int.reduceLE,Int.reduceGT,Int.reduceGE,Int.reduceEq,Int.reduceNe,Int.reduceNeg,Int.reduceAdd,Int.reduceSub,e1]
        refine go (fun z hz => ?_) _ _ (Wk.drop (m := 1) (by simp [wkS, Ch.get]) (Nat.zero_le _) (by simp) (by simp [chLt, AV.lt]) rfl (by simp [Blk.lt, ltL, AV.lt]))
        rw [hx] at hz
        cases hz
        refine ⟨⟨by omega, by omega, by omega, by omega, ?_⟩, hadj⟩
        rw [hb]
        have : (b.toNat : Int) = 204 := Decidable.not_not.1 c7
        exact congrArg some (UInt8.toNat_inj.1 (show b.toNat = (204 : UInt8).toNat by simp; omega))
    · simp only [go_sem,Nat.reduceAdd,Nat.reduceSub,Nat.reduceMul,Nat.reduceEqDiff,Nat.reduceLeDiff,Nat.reduceLT,↓reduceIte,Int.reduceToNat,reduceCtorEq,Int.reduceLT,Int.reduceLE,Int.reduceGT,Int.reduceGE,Int.reduceEq,Int.reduceNe,Int.reduceNeg,Int.reduceAdd,Int.reduceSub,c3]
      have hadj : ∀ y, 0 < i → p.l[i - 1]? = some y → y.at_ < x.at_ := fun z h0 _ => by omega
      refine dG_dec (fun c5 => ?_) (fun c5 => ?_)
      · simp only [go_sem,Nat.reduceAdd,Nat.reduceSub,Nat.reduceMul,Nat.reduceEqDiff,Nat.reduceLeDiff,Nat.reduceLT,↓reduceIte,Int.reduceToNat,reduceCtorEq,Int.reduceLT,Int.reduceLE,Int.reduceGT,Int.reduceGE,Int.reduceEq,Int.reduceNe,Int.reduceNeg,Int.reduceAdd,Int.reduceSub,c5]
        exact fin 70 _ (Pd.chk_no (bad fun h => by have := (h x hx).1.n1; omega)).symm
      simp only [go_sem,Nat.reduceAdd,Nat.reduceSub,Nat.reduceMul,Nat.reduceEqDiff,Nat.reduceLeDiff,Nat.reduceLT,↓reduceIte,Int.reduceToNat,reduceCtorEq,Int.reduceLT,Int.reduceLE,Int.reduceGT,Int.reduceGE,Int.reduceEq,Int.reduceNe,Int.reduceNeg,Int.reduceAdd,Int.reduceSub,c5]
      refine dG_dec (fun c6 => ?_) (fun c6 => ?_)
      · simp only [go_sem,Nat.reduceAdd,Nat.reduceSub,Nat.reduceMul,Nat.reduceEqDiff,Nat.reduceLeDiff,Nat.reduceLT,↓reduceIte,Int.reduceToNat,reduceCtorEq,Int.reduceLT,Int.reduceLE,Int.reduceGT,Int.reduceGE,Int.reduceEq,Int.reduceNe,Int.reduceNeg,Int.reduceAdd,Int.reduceSub,c6]
        exact fin 70 _ (Pd.chk_no (bad fun h => by have := (h x hx).1.n2; omega)).symm
      simp only [go_sem,Nat.reduceAdd,Nat.reduceSub,Nat.reduceMul,Nat.reduceEqDiff,Nat.reduceLeDiff,Nat.reduceLT,↓reduceIte,Int.reduceToNat,reduceCtorEq,Int.reduceLT,Int.reduceLE,Int.reduceGT,Int.reduceGE,Int.reduceEq,Int.reduceNe,Int.reduceNeg,Int.reduceAdd,Int.reduceSub,c6,g2,List.length_map,List.getElem?_map,hb]
      refine condD_dec (fun c7 => ?_) (fun c7 => ?_)
      · simp only [go_sem,Nat.reduceAdd,Nat.reduceSub,Nat.reduceMul,Nat.reduceEqDiff,Nat.reduceLeDiff,Nat.reduceLT,↓reduceIte,Int.reduceToNat,reduceCtorEq,Int.reduceLT,Int.reduceLE,Int.reduceGT,Int.reduceGE,Int.reduceEq,Int.reduceNe,Int.reduceNeg,Int.reduceAdd,Int.reduceSub]
        refine fin 70 _ (Pd.chk_no (bad fun h => ?_)).symm
        have := (h x hx).1.brk
        rw [hb] at this
        cases this
        exact absurd rfl c7
      · simp only [go_sem,Nat.reduceAdd,Nat.reduceSub,Nat.reduceMul,Nat.reduceEqDiff,Nat.reduceLeDiff,Nat.reduceLT,↓reduceIte,Int.reduceToNat,reduceCtorEq,Int.reduceLT,Int.reduceLE,Int.reduceGT,Int.reduceGE,Int.reduceEq,Int.reduceNe,Int.reduceNeg,Int.reduceAdd,Int.reduceSub,e1]
        refine go (fun z hz => ?_) _ _ (Wk.drop (m := 1) (by simp [wkS, Ch.get]) (Nat.zero_le _) (by simp) (by simp [chLt, AV.lt]) rfl (by simp [Blk.lt, ltL, AV.lt]))
        rw [hx] at hz
        cases hz
        refine ⟨⟨by omega, by omega, by omega, by omega, ?_⟩, hadj⟩
        rw [hb]
        have : (b.toNat : Int) = 204 := Decidable.not_not.1 c7
        exact congrArg some (UInt8.toNat_inj.1 (show b.toNat = (204 : UInt8).toNat by simp; omega))
  · simp only [go_sem,Nat.reduceAdd,Nat.reduceSub,Nat.reduceMul,Nat.reduceEqDiff,Nat.reduceLeDiff,Nat.reduceLT,↓reduceIte,Int.reduceToNat,reduceCtorEq,Int.reduceLT,Int.reduceLE,Int.reduceGT,Int.reduceGE,Int.reduceEq,Int.reduceNe,Int.reduceNeg,Int.reduceAdd,Int.reduceSub]
    have : i = p.l.length := by omega
    subst this
    have hall := okAt_all.1 ha
    refine rK_use (enters_of Tryz.func50 rfl (by decide)) (ACalls.pure_use (clean_c p ⟨by have := hs.p32; omega, by omega, by omega⟩ fun y hy => ⟨(hall.2 y hy).a0, (hall.2 y hy).a1⟩) rfl rfl) ?_
    have hcs : p.clean.ok := putL_ok _ _ hs
    simp only [go_sem,Nat.reduceAdd,Nat.reduceSub,Nat.reduceMul,Nat.reduceEqDiff,Nat.reduceLeDiff,Nat.reduceLT,↓reduceIte,Int.reduceToNat,reduceCtorEq,Int.reduceLT,Int.reduceLE,Int.reduceGT,Int.reduceGE,Int.reduceEq,Int.reduceNe,Int.reduceNeg,Int.reduceAdd,Int.reduceSub,Sp.av]
    refine rK_use (enters_of Tryz.func62 rfl (by decide)) ((contains_c p.clean hcs p.l (by omega)).useE [1] (.bool (decide (0 ≤ bad0 p.clean p.l 0))) [.rows 3 [[.view false 1 (p.s.perm.map r1), .view false 1 (p.s.byt.map rb), .view false 3 (p.l.map rp)]], spB (.view false 1 (p.clean.perm.map r1)) (.view false 1 (p.clean.byt.map rb))] (by simp) rfl (by simp) rfl rfl rfl rfl) ?_
    simp only [go_sem,Nat.reduceAdd,Nat.reduceSub,Nat.reduceMul,Nat.reduceEqDiff,Nat.reduceLeDiff,Nat.reduceLT,↓reduceIte,Int.reduceToNat,reduceCtorEq,Int.reduceLT,Int.reduceLE,Int.reduceGT,Int.reduceGE,Int.reduceEq,Int.reduceNe,Int.reduceNeg,Int.reduceAdd,Int.reduceSub]
    have hbd := bad0_lt p.clean p.l 0
    refine condD_dec (fun hz => ?_) (fun hz => ?_)
    · simp only [go_sem,Nat.reduceAdd,Nat.reduceSub,Nat.reduceMul,Nat.reduceEqDiff,Nat.reduceLeDiff,Nat.reduceLT,↓reduceIte,Int.reduceToNat,reduceCtorEq,Int.reduceLT,Int.reduceLE,Int.reduceGT,Int.reduceGE,Int.reduceEq,Int.reduceNe,Int.reduceNeg,Int.reduceAdd,Int.reduceSub]
      exact fin 70 _ (Pd.chk_no fun h => by have := hbd.2 h.std; omega).symm
    · simp only [go_sem,Nat.reduceAdd,Nat.reduceSub,Nat.reduceMul,Nat.reduceEqDiff,Nat.reduceLeDiff,Nat.reduceLT,↓reduceIte,Int.reduceToNat,reduceCtorEq,Int.reduceLT,Int.reduceLE,Int.reduceGT,Int.reduceGE,Int.reduceEq,Int.reduceNe,Int.reduceNeg,Int.reduceAdd,Int.reduceSub]
      exact fin 0 _ (Pd.chk_ok ⟨hs, by omega, hall.1, hall.2, hbd.1 (by omega)⟩).symm
end Go.Proofs.YtfiflailjbmlpaaGreatDoor
