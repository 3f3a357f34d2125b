/- cpu: the reference, Exec. No condition. -/
import Derived.Test.YtojfnagfafoiaaaDoorSK
set_option maxRecDepth 100000
set_option linter.unusedVariables false
set_option linter.unusedSimpArgs false
namespace Go.Proofs.YtojfnagfafoiaaaDoor
open Go.AM
theorem reff_ok {x : Ins} {s : Sp} {r : Rg} (hf : (ffault s (foot x r)).kind = 0) : effect x s r =
    (if isAlu x.op = true then (match alu x.op (r.get x.a) (r.get x.b) with
    | none => .tr ⟨5, 0, ⟨0, 0⟩⟩ (Pr.p1 x s r)
    | some v => .ok ((Pr.p1 x s r).setA v) [])
  else if 21 ≤ x.op ∧ x.op ≤ 25 then .ok (if taken x r = true then (Pr.p1 x s r).toPc (iw .i64 ((Pr.p1 x s r).next + x.imm)) else Pr.p1 x s r) []
  else if x.op = 26 then .ok ((Pr.p1 x s r).toPc (r.get x.a)) []
  else tabR (Pr.p1 x s r)) := by
  unfold effect
  rw [if_neg (by simp [hf])]
  cases alu x.op (r.get x.a) (r.get x.b) <;> rfl
theorem rexec_f {x : Ins} {s : Sp} {r : Rg} (hf : ¬ (ffault s (foot x r)).kind = 0) : exec x s r = ⟨r, 0, [], ⟨3, 0, ffault s (foot x r)⟩, x⟩ := by
  unfold exec effect
  rw [if_pos hf]
  rfl
def o0 (x : Ins) (r : Rg) : Eff := ⟨{ r with pc := iw .i64 (r.pc + x.len) }, 0, [], ⟨0, 0, ⟨0, 0⟩⟩, x⟩
theorem in_foot {s : Sp} (hs : s.ok) {q p : Int} (hq : I64 q) {n : Nat} (h0 : 0 < n) (hn : n ≤ 8) (h : (s.flt q p n 0).kind = 0) : 0 ≤ q ∧ q + n ≤ s.byt.length := by
  have hl : s.byt.length ≤ 2048 := by have := hs.p32; have := hs.len; omega
  have := (flt_in hq hl n 0 (by omega) (by omega) (.inr rfl) h).resolve_left (by omega)
  omega
theorem rx5_c (x : Ins) (hx : x.ok) (ho : x.op = 5) (s : Sp) (hs : s.ok) (r : Rg) (hr : r.wf) (hf : (ffault s (foot x r)).kind = 0) :
    ACalls Tryd.prog 22 [x.av, s.av, r.av] [] (fun u H => u = .ret (exec x s r).av ∧ H = []) := by
  refine ACalls.up ?_
  refine ACalls.intro (cs := []) (n := 175) Tryd.func22 rfl rfl rfl (by kernel_rfl) rfl ?_
  generalize hpost : (fun (u : Out) (H : Heap) => u = Out.ret (exec x s r).av ∧ H = []) = post
  have fin : ∀ (e : Eff) H, e = exec x s r → Up 0 post (.ret e.av) H := fun e H h => finv (Eff.av_lt e 0) (by rw [← hpost, ← h]; exact ⟨rfl, rfl⟩) H
  have finN : ∀ (e : Eff) H, e = exec x s r → e.data = [] → Up 0 post (.ret (.agg (e.cellsD dnil))) H := fun e H h hd => .le (.ret (.agg (leL_dnil e))) (LeH.refl _) (by have := fin e H h; unfold Eff.av Eff.cells at this; rwa [hd] at this)
  have ha : 0 ≤ x.a ∧ x.a < 8 := ⟨hx.a0, by have := hx.a7; omega⟩
  have hb : 0 ≤ x.b ∧ x.b < 8 := ⟨hx.b0, by have := hx.b7; omega⟩
  have ha19 : x.a.toNat + 1 ≤ 19 := by omega
  have hata := r.at hx.a0 hx.a7
  have hatb := r.at hx.b0 hx.b7
  have hfa := ffault0 hf
  obtain ⟨op, xa, xb, imm⟩ := x
  simp only at ho ha hb ha19 hata hatb
  subst ho
  simp only [go_sem,Nat.reduceAdd,Nat.reduceSub,Nat.reduceEqDiff,Nat.reduceLT,Nat.reduceLeDiff,↓reduceIte,Int.reduceToNat,reduceCtorEq,Int.reduceLT,Int.reduceEq,Ins.av,Ins.cells,Sp.av,Rg.av,Rg.cells]
  refine draw [.qu 0 0, .qu 0 0, .qu 0 0, .qu 0 0, .qu 0 0, .qu 0 0] (by kernel_rfl) (by kernel_rfl) ?_
  simp only [go_sem,Nat.reduceAdd,Nat.reduceSub,Nat.reduceEqDiff,Nat.reduceLT,Nat.reduceLeDiff,↓reduceIte,Int.reduceToNat,reduceCtorEq,Int.reduceLT,Int.reduceEq]
  refine y_call (enters_of Tryd.func35 rfl (by decide)) (fun _ => ACalls.pure_use (rilen_c _ hx) rfl rfl) ?_
  simp only [go_sem,Nat.reduceAdd,Nat.reduceSub,Nat.reduceEqDiff,Nat.reduceLT,Nat.reduceLeDiff,↓reduceIte,Int.reduceToNat,reduceCtorEq,Int.reduceLT,Int.reduceEq]
  refine rK_use (enters_of Tryd.func34 rfl (by decide)) (ACalls.pure_use (rfootprint_c _ hx r hr) rfl rfl) ?_
  simp only [go_sem,Nat.reduceAdd,Nat.reduceSub,Nat.reduceEqDiff,Nat.reduceLT,Nat.reduceLeDiff,↓reduceIte,Int.reduceToNat,reduceCtorEq,Int.reduceLT,Int.reduceEq]
  refine rK_use (enters_of Tryd.func55 rfl (by decide)) (ACalls.pure_use (rFault_c s hs (foot ⟨5, xa, xb, imm⟩ r) (foot_len _ r) (foot_size _ r)) rfl rfl) ?_
  simp only [go_sem,Nat.reduceAdd,Nat.reduceSub,Nat.reduceEqDiff,Nat.reduceLT,Nat.reduceLeDiff,↓reduceIte,Int.reduceToNat,reduceCtorEq,Int.reduceLT,Int.reduceEq,Flt.cells,hf]
  refine rK_use (enters_of Tryd.func28 rfl (by decide)) (ACalls.pure_use (isAlu_c 5) rfl rfl) ?_
  rw [show isAlu 5 = true from rfl]
  have hA := ralu_c 5 (r.get xa) (r.get xb) (hr.get _)
  simp only [go_sem,Nat.reduceAdd,Nat.reduceSub,Nat.reduceEqDiff,Nat.reduceLT,Nat.reduceLeDiff,↓reduceIte,Int.reduceToNat,reduceCtorEq,Int.reduceLT,Int.reduceEq]
  refine draw [.qu 0 0, .qu 0 0, .qu 0 0, .qu 0 0, .qu 0 0, .qu 0 0, .qu 0 0, .qu 0 0, .qu 0 0, .qu 0 0, .qu 0 0, .qu 0 0, .qu 0 0, .qu 0 0, .qu 0 0, .qu 0 0, .qu 0 0, .qu 0 0] (by kernel_rfl) (by kernel_rfl) ?_
  simp only [go_sem,Nat.reduceAdd,Nat.reduceSub,Nat.reduceEqDiff,Nat.reduceLT,Nat.reduceLeDiff,↓reduceIte,Int.reduceToNat,reduceCtorEq,Int.reduceLT,Int.reduceEq,Ins.av,Ins.cells,Sp.av,Rg.av,Rg.cells,Eff.cellsD,ha,ha19,hb,hata,hatb,wr0 ha.1 ha.2,trE,Eff.av,Eff.cells]
  cases hal : alu 5 (r.get xa) (r.get xb) with
  | none =>
    rw [hal] at hA
    refine y_call (enters_of Tryd.func29 rfl (by decide)) (fun _ => ACalls.pure_use (hA) rfl rfl) ?_
    simp only [go_sem,Nat.reduceAdd,Nat.reduceSub,Nat.reduceEqDiff,Nat.reduceLT,Nat.reduceLeDiff,↓reduceIte,Int.reduceToNat,reduceCtorEq,Int.reduceLT,Int.reduceEq,Ins.av,Ins.cells,Sp.av,Rg.av,Rg.cells,Eff.cellsD,ha,ha19,hb,hata,hatb,wr0 ha.1 ha.2,trE,Eff.av,Eff.cells,aluV,Option.isSome_none]
    refine rK_use (enters_of Tryd.func56 rfl (by decide)) (ACalls.pure_use (trapped_c ⟨5, xa, xb, imm⟩ r ⟨5, 0, ⟨0, 0⟩⟩) rfl (by simp [AV.lt, ltL, Eff.av_lt])) ?_
    simp only [go_sem,Nat.reduceAdd,Nat.reduceSub,Nat.reduceEqDiff,Nat.reduceLT,Nat.reduceLeDiff,↓reduceIte,Int.reduceToNat,reduceCtorEq,Int.reduceLT,Int.reduceEq,Ins.av,Ins.cells,Sp.av,Rg.av,Rg.cells,Eff.cellsD,ha,ha19,hb,hata,hatb,wr0 ha.1 ha.2,trE,Eff.av,Eff.cells]
    exact fin (trE ⟨5, xa, xb, imm⟩ r ⟨5, 0, ⟨0, 0⟩⟩) _ (by unfold exec; rw [reff_ok hf]; simp [hal, isAlu, tabR, Res.eff, Pr.setA, Pr.toPc, Pr.p1, Pr.start, Pr.set7, o0, m1, m2, m7, mp, trE])
  | some v =>
    rw [hal] at hA
    refine y_call (enters_of Tryd.func29 rfl (by decide)) (fun _ => ACalls.pure_use (hA) rfl rfl) ?_
    simp only [go_sem,Nat.reduceAdd,Nat.reduceSub,Nat.reduceEqDiff,Nat.reduceLT,Nat.reduceLeDiff,↓reduceIte,Int.reduceToNat,reduceCtorEq,Int.reduceLT,Int.reduceEq,Ins.av,Ins.cells,Sp.av,Rg.av,Rg.cells,Eff.cellsD,ha,ha19,hb,hata,hatb,wr0 ha.1 ha.2,trE,Eff.av,Eff.cells,aluV,Option.isSome_some,Option.getD_some]
    exact finN (m1 (o0 ⟨5, xa, xb, imm⟩ r) xa v) _ (by unfold exec; rw [reff_ok hf]; simp [hal, isAlu, tabR, Res.eff, Pr.setA, Pr.toPc, Pr.p1, Pr.start, Pr.set7, o0, m1, m2, m7, mp, trE]) rfl
theorem rx6_c (x : Ins) (hx : x.ok) (ho : x.op = 6) (s : Sp) (hs : s.ok) (r : Rg) (hr : r.wf) (hf : (ffault s (foot x r)).kind = 0) :
    ACalls Tryd.prog 22 [x.av, s.av, r.av] [] (fun u H => u = .ret (exec x s r).av ∧ H = []) := by
  refine ACalls.up ?_
  refine ACalls.intro (cs := []) (n := 175) Tryd.func22 rfl rfl rfl (by kernel_rfl) rfl ?_
  generalize hpost : (fun (u : Out) (H : Heap) => u = Out.ret (exec x s r).av ∧ H = []) = post
  have fin : ∀ (e : Eff) H, e = exec x s r → Up 0 post (.ret e.av) H := fun e H h => finv (Eff.av_lt e 0) (by rw [← hpost, ← h]; exact ⟨rfl, rfl⟩) H
  have finN : ∀ (e : Eff) H, e = exec x s r → e.data = [] → Up 0 post (.ret (.agg (e.cellsD dnil))) H := fun e H h hd => .le (.ret (.agg (leL_dnil e))) (LeH.refl _) (by have := fin e H h; unfold Eff.av Eff.cells at this; rwa [hd] at this)
  have ha : 0 ≤ x.a ∧ x.a < 8 := ⟨hx.a0, by have := hx.a7; omega⟩
  have hb : 0 ≤ x.b ∧ x.b < 8 := ⟨hx.b0, by have := hx.b7; omega⟩
  have ha19 : x.a.toNat + 1 ≤ 19 := by omega
  have hata := r.at hx.a0 hx.a7
  have hatb := r.at hx.b0 hx.b7
  have hfa := ffault0 hf
  obtain ⟨op, xa, xb, imm⟩ := x
  simp only at ho ha hb ha19 hata hatb
  subst ho
  simp only [go_sem,Nat.reduceAdd,Nat.reduceSub,Nat.reduceEqDiff,Nat.reduceLT,Nat.reduceLeDiff,↓reduceIte,Int.reduceToNat,reduceCtorEq,Int.reduceLT,Int.reduceEq,Ins.av,Ins.cells,Sp.av,Rg.av,Rg.cells]
  refine draw [.qu 0 0, .qu 0 0, .qu 0 0, .qu 0 0, .qu 0 0, .qu 0 0] (by kernel_rfl) (by kernel_rfl) ?_
  simp only [go_sem,Nat.reduceAdd,Nat.reduceSub,Nat.reduceEqDiff,Nat.reduceLT,Nat.reduceLeDiff,↓reduceIte,Int.reduceToNat,reduceCtorEq,Int.reduceLT,Int.reduceEq]
  refine y_call (enters_of Tryd.func35 rfl (by decide)) (fun _ => ACalls.pure_use (rilen_c _ hx) rfl rfl) ?_
  simp only [go_sem,Nat.reduceAdd,Nat.reduceSub,Nat.reduceEqDiff,Nat.reduceLT,Nat.reduceLeDiff,↓reduceIte,Int.reduceToNat,reduceCtorEq,Int.reduceLT,Int.reduceEq]
  refine rK_use (enters_of Tryd.func34 rfl (by decide)) (ACalls.pure_use (rfootprint_c _ hx r hr) rfl rfl) ?_
  simp only [go_sem,Nat.reduceAdd,Nat.reduceSub,Nat.reduceEqDiff,Nat.reduceLT,Nat.reduceLeDiff,↓reduceIte,Int.reduceToNat,reduceCtorEq,Int.reduceLT,Int.reduceEq]
  refine rK_use (enters_of Tryd.func55 rfl (by decide)) (ACalls.pure_use (rFault_c s hs (foot ⟨6, xa, xb, imm⟩ r) (foot_len _ r) (foot_size _ r)) rfl rfl) ?_
  simp only [go_sem,Nat.reduceAdd,Nat.reduceSub,Nat.reduceEqDiff,Nat.reduceLT,Nat.reduceLeDiff,↓reduceIte,Int.reduceToNat,reduceCtorEq,Int.reduceLT,Int.reduceEq,Flt.cells,hf]
  refine rK_use (enters_of Tryd.func28 rfl (by decide)) (ACalls.pure_use (isAlu_c 6) rfl rfl) ?_
  rw [show isAlu 6 = true from rfl]
  have hA := ralu_c 6 (r.get xa) (r.get xb) (hr.get _)
  simp only [go_sem,Nat.reduceAdd,Nat.reduceSub,Nat.reduceEqDiff,Nat.reduceLT,Nat.reduceLeDiff,↓reduceIte,Int.reduceToNat,reduceCtorEq,Int.reduceLT,Int.reduceEq]
  refine draw [.qu 0 0, .qu 0 0, .qu 0 0, .qu 0 0, .qu 0 0, .qu 0 0, .qu 0 0, .qu 0 0, .qu 0 0, .qu 0 0, .qu 0 0, .qu 0 0, .qu 0 0, .qu 0 0, .qu 0 0, .qu 0 0, .qu 0 0, .qu 0 0] (by kernel_rfl) (by kernel_rfl) ?_
  simp only [go_sem,Nat.reduceAdd,Nat.reduceSub,Nat.reduceEqDiff,Nat.reduceLT,Nat.reduceLeDiff,↓reduceIte,Int.reduceToNat,reduceCtorEq,Int.reduceLT,Int.reduceEq,Ins.av,Ins.cells,Sp.av,Rg.av,Rg.cells,Eff.cellsD,ha,ha19,hb,hata,hatb,wr0 ha.1 ha.2,trE,Eff.av,Eff.cells]
  cases hal : alu 6 (r.get xa) (r.get xb) with
  | none =>
    rw [hal] at hA
    refine y_call (enters_of Tryd.func29 rfl (by decide)) (fun _ => ACalls.pure_use (hA) rfl rfl) ?_
    simp only [go_sem,Nat.reduceAdd,Nat.reduceSub,Nat.reduceEqDiff,Nat.reduceLT,Nat.reduceLeDiff,↓reduceIte,Int.reduceToNat,reduceCtorEq,Int.reduceLT,Int.reduceEq,Ins.av,Ins.cells,Sp.av,Rg.av,Rg.cells,Eff.cellsD,ha,ha19,hb,hata,hatb,wr0 ha.1 ha.2,trE,Eff.av,Eff.cells,aluV,Option.isSome_none]
    refine rK_use (enters_of Tryd.func56 rfl (by decide)) (ACalls.pure_use (trapped_c ⟨6, xa, xb, imm⟩ r ⟨5, 0, ⟨0, 0⟩⟩) rfl (by simp [AV.lt, ltL, Eff.av_lt])) ?_
    simp only [go_sem,Nat.reduceAdd,Nat.reduceSub,Nat.reduceEqDiff,Nat.reduceLT,Nat.reduceLeDiff,↓reduceIte,Int.reduceToNat,reduceCtorEq,Int.reduceLT,Int.reduceEq,Ins.av,Ins.cells,Sp.av,Rg.av,Rg.cells,Eff.cellsD,ha,ha19,hb,hata,hatb,wr0 ha.1 ha.2,trE,Eff.av,Eff.cells]
    exact fin (trE ⟨6, xa, xb, imm⟩ r ⟨5, 0, ⟨0, 0⟩⟩) _ (by unfold exec; rw [reff_ok hf]; simp [hal, isAlu, tabR, Res.eff, Pr.setA, Pr.toPc, Pr.p1, Pr.start, Pr.set7, o0, m1, m2, m7, mp, trE])
  | some v =>
    rw [hal] at hA
    refine y_call (enters_of Tryd.func29 rfl (by decide)) (fun _ => ACalls.pure_use (hA) rfl rfl) ?_
    simp only [go_sem,Nat.reduceAdd,Nat.reduceSub,Nat.reduceEqDiff,Nat.reduceLT,Nat.reduceLeDiff,↓reduceIte,Int.reduceToNat,reduceCtorEq,Int.reduceLT,Int.reduceEq,Ins.av,Ins.cells,Sp.av,Rg.av,Rg.cells,Eff.cellsD,ha,ha19,hb,hata,hatb,wr0 ha.1 ha.2,trE,Eff.av,Eff.cells,aluV,Option.isSome_some,Option.getD_some]
    exact finN (m1 (o0 ⟨6, xa, xb, imm⟩ r) xa v) _ (by unfold exec; rw [reff_ok hf]; simp [hal, isAlu, tabR, Res.eff, Pr.setA, Pr.toPc, Pr.p1, Pr.start, Pr.set7, o0, m1, m2, m7, mp, trE]) rfl
theorem rx7_c (x : Ins) (hx : x.ok) (ho : x.op = 7) (s : Sp) (hs : s.ok) (r : Rg) (hr : r.wf) (hf : (ffault s (foot x r)).kind = 0) :
    ACalls Tryd.prog 22 [x.av, s.av, r.av] [] (fun u H => u = .ret (exec x s r).av ∧ H = []) := by
  refine ACalls.up ?_
  refine ACalls.intro (cs := []) (n := 175) Tryd.func22 rfl rfl rfl (by kernel_rfl) rfl ?_
  generalize hpost : (fun (u : Out) (H : Heap) => u = Out.ret (exec x s r).av ∧ H = []) = post
  have fin : ∀ (e : Eff) H, e = exec x s r → Up 0 post (.ret e.av) H := fun e H h => finv (Eff.av_lt e 0) (by rw [← hpost, ← h]; exact ⟨rfl, rfl⟩) H
  have finN : ∀ (e : Eff) H, e = exec x s r → e.data = [] → Up 0 post (.ret (.agg (e.cellsD dnil))) H := fun e H h hd => .le (.ret (.agg (leL_dnil e))) (LeH.refl _) (by have := fin e H h; unfold Eff.av Eff.cells at this; rwa [hd] at this)
  have ha : 0 ≤ x.a ∧ x.a < 8 := ⟨hx.a0, by have := hx.a7; omega⟩
  have hb : 0 ≤ x.b ∧ x.b < 8 := ⟨hx.b0, by have := hx.b7; omega⟩
  have ha19 : x.a.toNat + 1 ≤ 19 := by omega
  have hata := r.at hx.a0 hx.a7
  have hatb := r.at hx.b0 hx.b7
  have hfa := ffault0 hf
  obtain ⟨op, xa, xb, imm⟩ := x
  simp only at ho ha hb ha19 hata hatb
  subst ho
  simp only [go_sem,Nat.reduceAdd,Nat.reduceSub,Nat.reduceEqDiff,Nat.reduceLT,Nat.reduceLeDiff,↓reduceIte,Int.reduceToNat,reduceCtorEq,Int.reduceLT,Int.reduceEq,Ins.av,Ins.cells,Sp.av,Rg.av,Rg.cells]
  refine draw [.qu 0 0, .qu 0 0, .qu 0 0, .qu 0 0, .qu 0 0, .qu 0 0] (by kernel_rfl) (by kernel_rfl) ?_
  simp only [go_sem,Nat.reduceAdd,Nat.reduceSub,Nat.reduceEqDiff,Nat.reduceLT,Nat.reduceLeDiff,↓reduceIte,Int.reduceToNat,reduceCtorEq,Int.reduceLT,Int.reduceEq]
  refine y_call (enters_of Tryd.func35 rfl (by decide)) (fun _ => ACalls.pure_use (rilen_c _ hx) rfl rfl) ?_
  simp only [go_sem,Nat.reduceAdd,Nat.reduceSub,Nat.reduceEqDiff,Nat.reduceLT,Nat.reduceLeDiff,↓reduceIte,Int.reduceToNat,reduceCtorEq,Int.reduceLT,Int.reduceEq]
  refine rK_use (enters_of Tryd.func34 rfl (by decide)) (ACalls.pure_use (rfootprint_c _ hx r hr) rfl rfl) ?_
  simp only [go_sem,Nat.reduceAdd,Nat.reduceSub,Nat.reduceEqDiff,Nat.reduceLT,Nat.reduceLeDiff,↓reduceIte,Int.reduceToNat,reduceCtorEq,Int.reduceLT,Int.reduceEq]
  refine rK_use (enters_of Tryd.func55 rfl (by decide)) (ACalls.pure_use (rFault_c s hs (foot ⟨7, xa, xb, imm⟩ r) (foot_len _ r) (foot_size _ r)) rfl rfl) ?_
  simp only [go_sem,Nat.reduceAdd,Nat.reduceSub,Nat.reduceEqDiff,Nat.reduceLT,Nat.reduceLeDiff,↓reduceIte,Int.reduceToNat,reduceCtorEq,Int.reduceLT,Int.reduceEq,Flt.cells,hf]
  refine rK_use (enters_of Tryd.func28 rfl (by decide)) (ACalls.pure_use (isAlu_c 7) rfl rfl) ?_
  rw [show isAlu 7 = true from rfl]
  have hA := ralu_c 7 (r.get xa) (r.get xb) (hr.get _)
  simp only [go_sem,Nat.reduceAdd,Nat.reduceSub,Nat.reduceEqDiff,Nat.reduceLT,Nat.reduceLeDiff,↓reduceIte,Int.reduceToNat,reduceCtorEq,Int.reduceLT,Int.reduceEq]
  refine draw [.qu 0 0, .qu 0 0, .qu 0 0, .qu 0 0, .qu 0 0, .qu 0 0, .qu 0 0, .qu 0 0, .qu 0 0, .qu 0 0, .qu 0 0, .qu 0 0, .qu 0 0, .qu 0 0, .qu 0 0, .qu 0 0, .qu 0 0, .qu 0 0] (by kernel_rfl) (by kernel_rfl) ?_
  simp only [go_sem,Nat.reduceAdd,Nat.reduceSub,Nat.reduceEqDiff,Nat.reduceLT,Nat.reduceLeDiff,↓reduceIte,Int.reduceToNat,reduceCtorEq,Int.reduceLT,Int.reduceEq,Ins.av,Ins.cells,Sp.av,Rg.av,Rg.cells,Eff.cellsD,ha,ha19,hb,hata,hatb,wr0 ha.1 ha.2,trE,Eff.av,Eff.cells]
  cases hal : alu 7 (r.get xa) (r.get xb) with
  | none =>
    rw [hal] at hA
    refine y_call (enters_of Tryd.func29 rfl (by decide)) (fun _ => ACalls.pure_use (hA) rfl rfl) ?_
    simp only [go_sem,Nat.reduceAdd,Nat.reduceSub,Nat.reduceEqDiff,Nat.reduceLT,Nat.reduceLeDiff,↓reduceIte,Int.reduceToNat,reduceCtorEq,Int.reduceLT,Int.reduceEq,Ins.av,Ins.cells,Sp.av,Rg.av,Rg.cells,Eff.cellsD,ha,ha19,hb,hata,hatb,wr0 ha.1 ha.2,trE,Eff.av,Eff.cells,aluV,Option.isSome_none]
    refine rK_use (enters_of Tryd.func56 rfl (by decide)) (ACalls.pure_use (trapped_c ⟨7, xa, xb, imm⟩ r ⟨5, 0, ⟨0, 0⟩⟩) rfl (by simp [AV.lt, ltL, Eff.av_lt])) ?_
    simp only [go_sem,Nat.reduceAdd,Nat.reduceSub,Nat.reduceEqDiff,Nat.reduceLT,Nat.reduceLeDiff,↓reduceIte,Int.reduceToNat,reduceCtorEq,Int.reduceLT,Int.reduceEq,Ins.av,Ins.cells,Sp.av,Rg.av,Rg.cells,Eff.cellsD,ha,ha19,hb,hata,hatb,wr0 ha.1 ha.2,trE,Eff.av,Eff.cells]
    exact fin (trE ⟨7, xa, xb, imm⟩ r ⟨5, 0, ⟨0, 0⟩⟩) _ (by unfold exec; rw [reff_ok hf]; simp [hal, isAlu, tabR, Res.eff, Pr.setA, Pr.toPc, Pr.p1, Pr.start, Pr.set7, o0, m1, m2, m7, mp, trE])
  | some v =>
    rw [hal] at hA
    refine y_call (enters_of Tryd.func29 rfl (by decide)) (fun _ => ACalls.pure_use (hA) rfl rfl) ?_
    simp only [go_sem,Nat.reduceAdd,Nat.reduceSub,Nat.reduceEqDiff,Nat.reduceLT,Nat.reduceLeDiff,↓reduceIte,Int.reduceToNat,reduceCtorEq,Int.reduceLT,Int.reduceEq,Ins.av,Ins.cells,Sp.av,Rg.av,Rg.cells,Eff.cellsD,ha,ha19,hb,hata,hatb,wr0 ha.1 ha.2,trE,Eff.av,Eff.cells,aluV,Option.isSome_some,Option.getD_some]
    exact finN (m1 (o0 ⟨7, xa, xb, imm⟩ r) xa v) _ (by unfold exec; rw [reff_ok hf]; simp [hal, isAlu, tabR, Res.eff, Pr.setA, Pr.toPc, Pr.p1, Pr.start, Pr.set7, o0, m1, m2, m7, mp, trE]) rfl
theorem rx8_c (x : Ins) (hx : x.ok) (ho : x.op = 8) (s : Sp) (hs : s.ok) (r : Rg) (hr : r.wf) (hf : (ffault s (foot x r)).kind = 0) :
    ACalls Tryd.prog 22 [x.av, s.av, r.av] [] (fun u H => u = .ret (exec x s r).av ∧ H = []) := by
  refine ACalls.up ?_
  refine ACalls.intro (cs := []) (n := 175) Tryd.func22 rfl rfl rfl (by kernel_rfl) rfl ?_
  generalize hpost : (fun (u : Out) (H : Heap) => u = Out.ret (exec x s r).av ∧ H = []) = post
  have fin : ∀ (e : Eff) H, e = exec x s r → Up 0 post (.ret e.av) H := fun e H h => finv (Eff.av_lt e 0) (by rw [← hpost, ← h]; exact ⟨rfl, rfl⟩) H
  have finN : ∀ (e : Eff) H, e = exec x s r → e.data = [] → Up 0 post (.ret (.agg (e.cellsD dnil))) H := fun e H h hd => .le (.ret (.agg (leL_dnil e))) (LeH.refl _) (by have := fin e H h; unfold Eff.av Eff.cells at this; rwa [hd] at this)
  have ha : 0 ≤ x.a ∧ x.a < 8 := ⟨hx.a0, by have := hx.a7; omega⟩
  have hb : 0 ≤ x.b ∧ x.b < 8 := ⟨hx.b0, by have := hx.b7; omega⟩
  have ha19 : x.a.toNat + 1 ≤ 19 := by omega
  have hata := r.at hx.a0 hx.a7
  have hatb := r.at hx.b0 hx.b7
  have hfa := ffault0 hf
  obtain ⟨op, xa, xb, imm⟩ := x
  simp only at ho ha hb ha19 hata hatb
  subst ho
  simp only [go_sem,Nat.reduceAdd,Nat.reduceSub,Nat.reduceEqDiff,Nat.reduceLT,Nat.reduceLeDiff,↓reduceIte,Int.reduceToNat,reduceCtorEq,Int.reduceLT,Int.reduceEq,Ins.av,Ins.cells,Sp.av,Rg.av,Rg.cells]
  refine draw [.qu 0 0, .qu 0 0, .qu 0 0, .qu 0 0, .qu 0 0, .qu 0 0] (by kernel_rfl) (by kernel_rfl) ?_
  simp only [go_sem,Nat.reduceAdd,Nat.reduceSub,Nat.reduceEqDiff,Nat.reduceLT,Nat.reduceLeDiff,↓reduceIte,Int.reduceToNat,reduceCtorEq,Int.reduceLT,Int.reduceEq]
  refine y_call (enters_of Tryd.func35 rfl (by decide)) (fun _ => ACalls.pure_use (rilen_c _ hx) rfl rfl) ?_
  simp only [go_sem,Nat.reduceAdd,Nat.reduceSub,Nat.reduceEqDiff,Nat.reduceLT,Nat.reduceLeDiff,↓reduceIte,Int.reduceToNat,reduceCtorEq,Int.reduceLT,Int.reduceEq]
  refine rK_use (enters_of Tryd.func34 rfl (by decide)) (ACalls.pure_use (rfootprint_c _ hx r hr) rfl rfl) ?_
  simp only [go_sem,Nat.reduceAdd,Nat.reduceSub,Nat.reduceEqDiff,Nat.reduceLT,Nat.reduceLeDiff,↓reduceIte,Int.reduceToNat,reduceCtorEq,Int.reduceLT,Int.reduceEq]
  refine rK_use (enters_of Tryd.func55 rfl (by decide)) (ACalls.pure_use (rFault_c s hs (foot ⟨8, xa, xb, imm⟩ r) (foot_len _ r) (foot_size _ r)) rfl rfl) ?_
  simp only [go_sem,Nat.reduceAdd,Nat.reduceSub,Nat.reduceEqDiff,Nat.reduceLT,Nat.reduceLeDiff,↓reduceIte,Int.reduceToNat,reduceCtorEq,Int.reduceLT,Int.reduceEq,Flt.cells,hf]
  refine rK_use (enters_of Tryd.func28 rfl (by decide)) (ACalls.pure_use (isAlu_c 8) rfl rfl) ?_
  rw [show isAlu 8 = true from rfl]
  have hA := ralu_c 8 (r.get xa) (r.get xb) (hr.get _)
  simp only [go_sem,Nat.reduceAdd,Nat.reduceSub,Nat.reduceEqDiff,Nat.reduceLT,Nat.reduceLeDiff,↓reduceIte,Int.reduceToNat,reduceCtorEq,Int.reduceLT,Int.reduceEq]
  refine draw [.qu 0 0, .qu 0 0, .qu 0 0, .qu 0 0, .qu 0 0, .qu 0 0, .qu 0 0, .qu 0 0, .qu 0 0, .qu 0 0, .qu 0 0, .qu 0 0, .qu 0 0, .qu 0 0, .qu 0 0, .qu 0 0, .qu 0 0, .qu 0 0] (by kernel_rfl) (by kernel_rfl) ?_
  simp only [go_sem,Nat.reduceAdd,Nat.reduceSub,Nat.reduceEqDiff,Nat.reduceLT,Nat.reduceLeDiff,↓reduceIte,Int.reduceToNat,reduceCtorEq,Int.reduceLT,Int.reduceEq,Ins.av,Ins.cells,Sp.av,Rg.av,Rg.cells,Eff.cellsD,ha,ha19,hb,hata,hatb,wr0 ha.1 ha.2,trE,Eff.av,Eff.cells]
  cases hal : alu 8 (r.get xa) (r.get xb) with
  | none =>
    rw [hal] at hA
    refine y_call (enters_of Tryd.func29 rfl (by decide)) (fun _ => ACalls.pure_use (hA) rfl rfl) ?_
    simp only [go_sem,Nat.reduceAdd,Nat.reduceSub,Nat.reduceEqDiff,Nat.reduceLT,Nat.reduceLeDiff,↓reduceIte,Int.reduceToNat,reduceCtorEq,Int.reduceLT,Int.reduceEq,Ins.av,Ins.cells,Sp.av,Rg.av,Rg.cells,Eff.cellsD,ha,ha19,hb,hata,hatb,wr0 ha.1 ha.2,trE,Eff.av,Eff.cells,aluV,Option.isSome_none]
    refine rK_use (enters_of Tryd.func56 rfl (by decide)) (ACalls.pure_use (trapped_c ⟨8, xa, xb, imm⟩ r ⟨5, 0, ⟨0, 0⟩⟩) rfl (by simp [AV.lt, ltL, Eff.av_lt])) ?_
    simp only [go_sem,Nat.reduceAdd,Nat.reduceSub,Nat.reduceEqDiff,Nat.reduceLT,Nat.reduceLeDiff,↓reduceIte,Int.reduceToNat,reduceCtorEq,Int.reduceLT,Int.reduceEq,Ins.av,Ins.cells,Sp.av,Rg.av,Rg.cells,Eff.cellsD,ha,ha19,hb,hata,hatb,wr0 ha.1 ha.2,trE,Eff.av,Eff.cells]
    exact fin (trE ⟨8, xa, xb, imm⟩ r ⟨5, 0, ⟨0, 0⟩⟩) _ (by unfold exec; rw [reff_ok hf]; simp [hal, isAlu, tabR, Res.eff, Pr.setA, Pr.toPc, Pr.p1, Pr.start, Pr.set7, o0, m1, m2, m7, mp, trE])
  | some v =>
    rw [hal] at hA
    refine y_call (enters_of Tryd.func29 rfl (by decide)) (fun _ => ACalls.pure_use (hA) rfl rfl) ?_
    simp only [go_sem,Nat.reduceAdd,Nat.reduceSub,Nat.reduceEqDiff,Nat.reduceLT,Nat.reduceLeDiff,↓reduceIte,Int.reduceToNat,reduceCtorEq,Int.reduceLT,Int.reduceEq,Ins.av,Ins.cells,Sp.av,Rg.av,Rg.cells,Eff.cellsD,ha,ha19,hb,hata,hatb,wr0 ha.1 ha.2,trE,Eff.av,Eff.cells,aluV,Option.isSome_some,Option.getD_some]
    exact finN (m1 (o0 ⟨8, xa, xb, imm⟩ r) xa v) _ (by unfold exec; rw [reff_ok hf]; simp [hal, isAlu, tabR, Res.eff, Pr.setA, Pr.toPc, Pr.p1, Pr.start, Pr.set7, o0, m1, m2, m7, mp, trE]) rfl
theorem rx9_c (x : Ins) (hx : x.ok) (ho : x.op = 9) (s : Sp) (hs : s.ok) (r : Rg) (hr : r.wf) (hf : (ffault s (foot x r)).kind = 0) :
    ACalls Tryd.prog 22 [x.av, s.av, r.av] [] (fun u H => u = .ret (exec x s r).av ∧ H = []) := by
  refine ACalls.up ?_
  refine ACalls.intro (cs := []) (n := 175) Tryd.func22 rfl rfl rfl (by kernel_rfl) rfl ?_
  generalize hpost : (fun (u : Out) (H : Heap) => u = Out.ret (exec x s r).av ∧ H = []) = post
  have fin : ∀ (e : Eff) H, e = exec x s r → Up 0 post (.ret e.av) H := fun e H h => finv (Eff.av_lt e 0) (by rw [← hpost, ← h]; exact ⟨rfl, rfl⟩) H
  have finN : ∀ (e : Eff) H, e = exec x s r → e.data = [] → Up 0 post (.ret (.agg (e.cellsD dnil))) H := fun e H h hd => .le (.ret (.agg (leL_dnil e))) (LeH.refl _) (by have := fin e H h; unfold Eff.av Eff.cells at this; rwa [hd] at this)
  have ha : 0 ≤ x.a ∧ x.a < 8 := ⟨hx.a0, by have := hx.a7; omega⟩
  have hb : 0 ≤ x.b ∧ x.b < 8 := ⟨hx.b0, by have := hx.b7; omega⟩
  have ha19 : x.a.toNat + 1 ≤ 19 := by omega
  have hata := r.at hx.a0 hx.a7
  have hatb := r.at hx.b0 hx.b7
  have hfa := ffault0 hf
  obtain ⟨op, xa, xb, imm⟩ := x
  simp only at ho ha hb ha19 hata hatb
  subst ho
  simp only [go_sem,Nat.reduceAdd,Nat.reduceSub,Nat.reduceEqDiff,Nat.reduceLT,Nat.reduceLeDiff,↓reduceIte,Int.reduceToNat,reduceCtorEq,Int.reduceLT,Int.reduceEq,Ins.av,Ins.cells,Sp.av,Rg.av,Rg.cells]
  refine draw [.qu 0 0, .qu 0 0, .qu 0 0, .qu 0 0, .qu 0 0, .qu 0 0] (by kernel_rfl) (by kernel_rfl) ?_
  simp only [go_sem,Nat.reduceAdd,Nat.reduceSub,Nat.reduceEqDiff,Nat.reduceLT,Nat.reduceLeDiff,↓reduceIte,Int.reduceToNat,reduceCtorEq,Int.reduceLT,Int.reduceEq]
  refine y_call (enters_of Tryd.func35 rfl (by decide)) (fun _ => ACalls.pure_use (rilen_c _ hx) rfl rfl) ?_
  simp only [go_sem,Nat.reduceAdd,Nat.reduceSub,Nat.reduceEqDiff,Nat.reduceLT,Nat.reduceLeDiff,↓reduceIte,Int.reduceToNat,reduceCtorEq,Int.reduceLT,Int.reduceEq]
  refine rK_use (enters_of Tryd.func34 rfl (by decide)) (ACalls.pure_use (rfootprint_c _ hx r hr) rfl rfl) ?_
  simp only [go_sem,Nat.reduceAdd,Nat.reduceSub,Nat.reduceEqDiff,Nat.reduceLT,Nat.reduceLeDiff,↓reduceIte,Int.reduceToNat,reduceCtorEq,Int.reduceLT,Int.reduceEq]
  refine rK_use (enters_of Tryd.func55 rfl (by decide)) (ACalls.pure_use (rFault_c s hs (foot ⟨9, xa, xb, imm⟩ r) (foot_len _ r) (foot_size _ r)) rfl rfl) ?_
  simp only [go_sem,Nat.reduceAdd,Nat.reduceSub,Nat.reduceEqDiff,Nat.reduceLT,Nat.reduceLeDiff,↓reduceIte,Int.reduceToNat,reduceCtorEq,Int.reduceLT,Int.reduceEq,Flt.cells,hf]
  refine rK_use (enters_of Tryd.func28 rfl (by decide)) (ACalls.pure_use (isAlu_c 9) rfl rfl) ?_
  rw [show isAlu 9 = true from rfl]
  have hA := ralu_c 9 (r.get xa) (r.get xb) (hr.get _)
  simp only [go_sem,Nat.reduceAdd,Nat.reduceSub,Nat.reduceEqDiff,Nat.reduceLT,Nat.reduceLeDiff,↓reduceIte,Int.reduceToNat,reduceCtorEq,Int.reduceLT,Int.reduceEq]
  refine draw [.qu 0 0, .qu 0 0, .qu 0 0, .qu 0 0, .qu 0 0, .qu 0 0, .qu 0 0, .qu 0 0, .qu 0 0, .qu 0 0, .qu 0 0, .qu 0 0, .qu 0 0, .qu 0 0, .qu 0 0, .qu 0 0, .qu 0 0, .qu 0 0] (by kernel_rfl) (by kernel_rfl) ?_
  simp only [go_sem,Nat.reduceAdd,Nat.reduceSub,Nat.reduceEqDiff,Nat.reduceLT,Nat.reduceLeDiff,↓reduceIte,Int.reduceToNat,reduceCtorEq,Int.reduceLT,Int.reduceEq,Ins.av,Ins.cells,Sp.av,Rg.av,Rg.cells,Eff.cellsD,ha,ha19,hb,hata,hatb,wr0 ha.1 ha.2,trE,Eff.av,Eff.cells]
  cases hal : alu 9 (r.get xa) (r.get xb) with
  | none =>
    rw [hal] at hA
    refine y_call (enters_of Tryd.func29 rfl (by decide)) (fun _ => ACalls.pure_use (hA) rfl rfl) ?_
    simp only [go_sem,Nat.reduceAdd,Nat.reduceSub,Nat.reduceEqDiff,Nat.reduceLT,Nat.reduceLeDiff,↓reduceIte,Int.reduceToNat,reduceCtorEq,Int.reduceLT,Int.reduceEq,Ins.av,Ins.cells,Sp.av,Rg.av,Rg.cells,Eff.cellsD,ha,ha19,hb,hata,hatb,wr0 ha.1 ha.2,trE,Eff.av,Eff.cells,aluV,Option.isSome_none]
    refine rK_use (enters_of Tryd.func56 rfl (by decide)) (ACalls.pure_use (trapped_c ⟨9, xa, xb, imm⟩ r ⟨5, 0, ⟨0, 0⟩⟩) rfl (by simp [AV.lt, ltL, Eff.av_lt])) ?_
    simp only [go_sem,Nat.reduceAdd,Nat.reduceSub,Nat.reduceEqDiff,Nat.reduceLT,Nat.reduceLeDiff,↓reduceIte,Int.reduceToNat,reduceCtorEq,Int.reduceLT,Int.reduceEq,Ins.av,Ins.cells,Sp.av,Rg.av,Rg.cells,Eff.cellsD,ha,ha19,hb,hata,hatb,wr0 ha.1 ha.2,trE,Eff.av,Eff.cells]
    exact fin (trE ⟨9, xa, xb, imm⟩ r ⟨5, 0, ⟨0, 0⟩⟩) _ (by unfold exec; rw [reff_ok hf]; simp [hal, isAlu, tabR, Res.eff, Pr.setA, Pr.toPc, Pr.p1, Pr.start, Pr.set7, o0, m1, m2, m7, mp, trE])
  | some v =>
    rw [hal] at hA
    refine y_call (enters_of Tryd.func29 rfl (by decide)) (fun _ => ACalls.pure_use (hA) rfl rfl) ?_
    simp only [go_sem,Nat.reduceAdd,Nat.reduceSub,Nat.reduceEqDiff,Nat.reduceLT,Nat.reduceLeDiff,↓reduceIte,Int.reduceToNat,reduceCtorEq,Int.reduceLT,Int.reduceEq,Ins.av,Ins.cells,Sp.av,Rg.av,Rg.cells,Eff.cellsD,ha,ha19,hb,hata,hatb,wr0 ha.1 ha.2,trE,Eff.av,Eff.cells,aluV,Option.isSome_some,Option.getD_some]
    exact finN (m1 (o0 ⟨9, xa, xb, imm⟩ r) xa v) _ (by unfold exec; rw [reff_ok hf]; simp [hal, isAlu, tabR, Res.eff, Pr.setA, Pr.toPc, Pr.p1, Pr.start, Pr.set7, o0, m1, m2, m7, mp, trE]) rfl
theorem rx10_c (x : Ins) (hx : x.ok) (ho : x.op = 10) (s : Sp) (hs : s.ok) (r : Rg) (hr : r.wf) (hf : (ffault s (foot x r)).kind = 0) :
    ACalls Tryd.prog 22 [x.av, s.av, r.av] [] (fun u H => u = .ret (exec x s r).av ∧ H = []) := by
  refine ACalls.up ?_
  refine ACalls.intro (cs := []) (n := 175) Tryd.func22 rfl rfl rfl (by kernel_rfl) rfl ?_
  generalize hpost : (fun (u : Out) (H : Heap) => u = Out.ret (exec x s r).av ∧ H = []) = post
  have fin : ∀ (e : Eff) H, e = exec x s r → Up 0 post (.ret e.av) H := fun e H h => finv (Eff.av_lt e 0) (by rw [← hpost, ← h]; exact ⟨rfl, rfl⟩) H
  have finN : ∀ (e : Eff) H, e = exec x s r → e.data = [] → Up 0 post (.ret (.agg (e.cellsD dnil))) H := fun e H h hd => .le (.ret (.agg (leL_dnil e))) (LeH.refl _) (by have := fin e H h; unfold Eff.av Eff.cells at this; rwa [hd] at this)
  have ha : 0 ≤ x.a ∧ x.a < 8 := ⟨hx.a0, by have := hx.a7; omega⟩
  have hb : 0 ≤ x.b ∧ x.b < 8 := ⟨hx.b0, by have := hx.b7; omega⟩
  have ha19 : x.a.toNat + 1 ≤ 19 := by omega
  have hata := r.at hx.a0 hx.a7
  have hatb := r.at hx.b0 hx.b7
  have hfa := ffault0 hf
  obtain ⟨op, xa, xb, imm⟩ := x
  simp only at ho ha hb ha19 hata hatb
  subst ho
  simp only [go_sem,Nat.reduceAdd,Nat.reduceSub,Nat.reduceEqDiff,Nat.reduceLT,Nat.reduceLeDiff,↓reduceIte,Int.reduceToNat,reduceCtorEq,Int.reduceLT,Int.reduceEq,Ins.av,Ins.cells,Sp.av,Rg.av,Rg.cells]
  refine draw [.qu 0 0, .qu 0 0, .qu 0 0, .qu 0 0, .qu 0 0, .qu 0 0] (by kernel_rfl) (by kernel_rfl) ?_
  simp only [go_sem,Nat.reduceAdd,Nat.reduceSub,Nat.reduceEqDiff,Nat.reduceLT,Nat.reduceLeDiff,↓reduceIte,Int.reduceToNat,reduceCtorEq,Int.reduceLT,Int.reduceEq]
  refine y_call (enters_of Tryd.func35 rfl (by decide)) (fun _ => ACalls.pure_use (rilen_c _ hx) rfl rfl) ?_
  simp only [go_sem,Nat.reduceAdd,Nat.reduceSub,Nat.reduceEqDiff,Nat.reduceLT,Nat.reduceLeDiff,↓reduceIte,Int.reduceToNat,reduceCtorEq,Int.reduceLT,Int.reduceEq]
  refine rK_use (enters_of Tryd.func34 rfl (by decide)) (ACalls.pure_use (rfootprint_c _ hx r hr) rfl rfl) ?_
  simp only [go_sem,Nat.reduceAdd,Nat.reduceSub,Nat.reduceEqDiff,Nat.reduceLT,Nat.reduceLeDiff,↓reduceIte,Int.reduceToNat,reduceCtorEq,Int.reduceLT,Int.reduceEq]
  refine rK_use (enters_of Tryd.func55 rfl (by decide)) (ACalls.pure_use (rFault_c s hs (foot ⟨10, xa, xb, imm⟩ r) (foot_len _ r) (foot_size _ r)) rfl rfl) ?_
  simp only [go_sem,Nat.reduceAdd,Nat.reduceSub,Nat.reduceEqDiff,Nat.reduceLT,Nat.reduceLeDiff,↓reduceIte,Int.reduceToNat,reduceCtorEq,Int.reduceLT,Int.reduceEq,Flt.cells,hf]
  refine rK_use (enters_of Tryd.func28 rfl (by decide)) (ACalls.pure_use (isAlu_c 10) rfl rfl) ?_
  rw [show isAlu 10 = true from rfl]
  have hA := ralu_c 10 (r.get xa) (r.get xb) (hr.get _)
  simp only [go_sem,Nat.reduceAdd,Nat.reduceSub,Nat.reduceEqDiff,Nat.reduceLT,Nat.reduceLeDiff,↓reduceIte,Int.reduceToNat,reduceCtorEq,Int.reduceLT,Int.reduceEq]
  refine draw [.qu 0 0, .qu 0 0, .qu 0 0, .qu 0 0, .qu 0 0, .qu 0 0, .qu 0 0, .qu 0 0, .qu 0 0, .qu 0 0, .qu 0 0, .qu 0 0, .qu 0 0, .qu 0 0, .qu 0 0, .qu 0 0, .qu 0 0, .qu 0 0] (by kernel_rfl) (by kernel_rfl) ?_
  simp only [go_sem,Nat.reduceAdd,Nat.reduceSub,Nat.reduceEqDiff,Nat.reduceLT,Nat.reduceLeDiff,↓reduceIte,Int.reduceToNat,reduceCtorEq,Int.reduceLT,Int.reduceEq,Ins.av,Ins.cells,Sp.av,Rg.av,Rg.cells,Eff.cellsD,ha,ha19,hb,hata,hatb,wr0 ha.1 ha.2,trE,Eff.av,Eff.cells]
  cases hal : alu 10 (r.get xa) (r.get xb) with
  | none =>
    rw [hal] at hA
    refine y_call (enters_of Tryd.func29 rfl (by decide)) (fun _ => ACalls.pure_use (hA) rfl rfl) ?_
    simp only [go_sem,Nat.reduceAdd,Nat.reduceSub,Nat.reduceEqDiff,Nat.reduceLT,Nat.reduceLeDiff,↓reduceIte,Int.reduceToNat,reduceCtorEq,Int.reduceLT,Int.reduceEq,Ins.av,Ins.cells,Sp.av,Rg.av,Rg.cells,Eff.cellsD,ha,ha19,hb,hata,hatb,wr0 ha.1 ha.2,trE,Eff.av,Eff.cells,aluV,Option.isSome_none]
    refine rK_use (enters_of Tryd.func56 rfl (by decide)) (ACalls.pure_use (trapped_c ⟨10, xa, xb, imm⟩ r ⟨5, 0, ⟨0, 0⟩⟩) rfl (by simp [AV.lt, ltL, Eff.av_lt])) ?_
    simp only [go_sem,Nat.reduceAdd,Nat.reduceSub,Nat.reduceEqDiff,Nat.reduceLT,Nat.reduceLeDiff,↓reduceIte,Int.reduceToNat,reduceCtorEq,Int.reduceLT,Int.reduceEq,Ins.av,Ins.cells,Sp.av,Rg.av,Rg.cells,Eff.cellsD,ha,ha19,hb,hata,hatb,wr0 ha.1 ha.2,trE,Eff.av,Eff.cells]
    exact fin (trE ⟨10, xa, xb, imm⟩ r ⟨5, 0, ⟨0, 0⟩⟩) _ (by unfold exec; rw [reff_ok hf]; simp [hal, isAlu, tabR, Res.eff, Pr.setA, Pr.toPc, Pr.p1, Pr.start, Pr.set7, o0, m1, m2, m7, mp, trE])
  | some v =>
    rw [hal] at hA
    refine y_call (enters_of Tryd.func29 rfl (by decide)) (fun _ => ACalls.pure_use (hA) rfl rfl) ?_
    simp only [go_sem,Nat.reduceAdd,Nat.reduceSub,Nat.reduceEqDiff,Nat.reduceLT,Nat.reduceLeDiff,↓reduceIte,Int.reduceToNat,reduceCtorEq,Int.reduceLT,Int.reduceEq,Ins.av,Ins.cells,Sp.av,Rg.av,Rg.cells,Eff.cellsD,ha,ha19,hb,hata,hatb,wr0 ha.1 ha.2,trE,Eff.av,Eff.cells,aluV,Option.isSome_some,Option.getD_some]
    exact finN (m1 (o0 ⟨10, xa, xb, imm⟩ r) xa v) _ (by unfold exec; rw [reff_ok hf]; simp [hal, isAlu, tabR, Res.eff, Pr.setA, Pr.toPc, Pr.p1, Pr.start, Pr.set7, o0, m1, m2, m7, mp, trE]) rfl
theorem rx11_c (x : Ins) (hx : x.ok) (ho : x.op = 11) (s : Sp) (hs : s.ok) (r : Rg) (hr : r.wf) (hf : (ffault s (foot x r)).kind = 0) :
    ACalls Tryd.prog 22 [x.av, s.av, r.av] [] (fun u H => u = .ret (exec x s r).av ∧ H = []) := by
  refine ACalls.up ?_
  refine ACalls.intro (cs := []) (n := 175) Tryd.func22 rfl rfl rfl (by kernel_rfl) rfl ?_
  generalize hpost : (fun (u : Out) (H : Heap) => u = Out.ret (exec x s r).av ∧ H = []) = post
  have fin : ∀ (e : Eff) H, e = exec x s r → Up 0 post (.ret e.av) H := fun e H h => finv (Eff.av_lt e 0) (by rw [← hpost, ← h]; exact ⟨rfl, rfl⟩) H
  have finN : ∀ (e : Eff) H, e = exec x s r → e.data = [] → Up 0 post (.ret (.agg (e.cellsD dnil))) H := fun e H h hd => .le (.ret (.agg (leL_dnil e))) (LeH.refl _) (by have := fin e H h; unfold Eff.av Eff.cells at this; rwa [hd] at this)
  have ha : 0 ≤ x.a ∧ x.a < 8 := ⟨hx.a0, by have := hx.a7; omega⟩
  have hb : 0 ≤ x.b ∧ x.b < 8 := ⟨hx.b0, by have := hx.b7; omega⟩
  have ha19 : x.a.toNat + 1 ≤ 19 := by omega
  have hata := r.at hx.a0 hx.a7
  have hatb := r.at hx.b0 hx.b7
  have hfa := ffault0 hf
  obtain ⟨op, xa, xb, imm⟩ := x
  simp only at ho ha hb ha19 hata hatb
  subst ho
  simp only [go_sem,Nat.reduceAdd,Nat.reduceSub,Nat.reduceEqDiff,Nat.reduceLT,Nat.reduceLeDiff,↓reduceIte,Int.reduceToNat,reduceCtorEq,Int.reduceLT,Int.reduceEq,Ins.av,Ins.cells,Sp.av,Rg.av,Rg.cells]
  refine draw [.qu 0 0, .qu 0 0, .qu 0 0, .qu 0 0, .qu 0 0, .qu 0 0] (by kernel_rfl) (by kernel_rfl) ?_
  simp only [go_sem,Nat.reduceAdd,Nat.reduceSub,Nat.reduceEqDiff,Nat.reduceLT,Nat.reduceLeDiff,↓reduceIte,Int.reduceToNat,reduceCtorEq,Int.reduceLT,Int.reduceEq]
  refine y_call (enters_of Tryd.func35 rfl (by decide)) (fun _ => ACalls.pure_use (rilen_c _ hx) rfl rfl) ?_
  simp only [go_sem,Nat.reduceAdd,Nat.reduceSub,Nat.reduceEqDiff,Nat.reduceLT,Nat.reduceLeDiff,↓reduceIte,Int.reduceToNat,reduceCtorEq,Int.reduceLT,Int.reduceEq]
  refine rK_use (enters_of Tryd.func34 rfl (by decide)) (ACalls.pure_use (rfootprint_c _ hx r hr) rfl rfl) ?_
  simp only [go_sem,Nat.reduceAdd,Nat.reduceSub,Nat.reduceEqDiff,Nat.reduceLT,Nat.reduceLeDiff,↓reduceIte,Int.reduceToNat,reduceCtorEq,Int.reduceLT,Int.reduceEq]
  refine rK_use (enters_of Tryd.func55 rfl (by decide)) (ACalls.pure_use (rFault_c s hs (foot ⟨11, xa, xb, imm⟩ r) (foot_len _ r) (foot_size _ r)) rfl rfl) ?_
  simp only [go_sem,Nat.reduceAdd,Nat.reduceSub,Nat.reduceEqDiff,Nat.reduceLT,Nat.reduceLeDiff,↓reduceIte,Int.reduceToNat,reduceCtorEq,Int.reduceLT,Int.reduceEq,Flt.cells,hf]
  refine rK_use (enters_of Tryd.func28 rfl (by decide)) (ACalls.pure_use (isAlu_c 11) rfl rfl) ?_
  rw [show isAlu 11 = true from rfl]
  have hA := ralu_c 11 (r.get xa) (r.get xb) (hr.get _)
  simp only [go_sem,Nat.reduceAdd,Nat.reduceSub,Nat.reduceEqDiff,Nat.reduceLT,Nat.reduceLeDiff,↓reduceIte,Int.reduceToNat,reduceCtorEq,Int.reduceLT,Int.reduceEq]
  refine draw [.qu 0 0, .qu 0 0, .qu 0 0, .qu 0 0, .qu 0 0, .qu 0 0, .qu 0 0, .qu 0 0, .qu 0 0, .qu 0 0, .qu 0 0, .qu 0 0, .qu 0 0, .qu 0 0, .qu 0 0, .qu 0 0, .qu 0 0, .qu 0 0] (by kernel_rfl) (by kernel_rfl) ?_
  simp only [go_sem,Nat.reduceAdd,Nat.reduceSub,Nat.reduceEqDiff,Nat.reduceLT,Nat.reduceLeDiff,↓reduceIte,Int.reduceToNat,reduceCtorEq,Int.reduceLT,Int.reduceEq,Ins.av,Ins.cells,Sp.av,Rg.av,Rg.cells,Eff.cellsD,ha,ha19,hb,hata,hatb,wr0 ha.1 ha.2,trE,Eff.av,Eff.cells]
  cases hal : alu 11 (r.get xa) (r.get xb) with
  | none =>
    rw [hal] at hA
    refine y_call (enters_of Tryd.func29 rfl (by decide)) (fun _ => ACalls.pure_use (hA) rfl rfl) ?_
    simp only [go_sem,Nat.reduceAdd,Nat.reduceSub,Nat.reduceEqDiff,Nat.reduceLT,Nat.reduceLeDiff,↓reduceIte,Int.reduceToNat,reduceCtorEq,Int.reduceLT,Int.reduceEq,Ins.av,Ins.cells,Sp.av,Rg.av,Rg.cells,Eff.cellsD,ha,ha19,hb,hata,hatb,wr0 ha.1 ha.2,trE,Eff.av,Eff.cells,aluV,Option.isSome_none]
    refine rK_use (enters_of Tryd.func56 rfl (by decide)) (ACalls.pure_use (trapped_c ⟨11, xa, xb, imm⟩ r ⟨5, 0, ⟨0, 0⟩⟩) rfl (by simp [AV.lt, ltL, Eff.av_lt])) ?_
    simp only [go_sem,Nat.reduceAdd,Nat.reduceSub,Nat.reduceEqDiff,Nat.reduceLT,Nat.reduceLeDiff,↓reduceIte,Int.reduceToNat,reduceCtorEq,Int.reduceLT,Int.reduceEq,Ins.av,Ins.cells,Sp.av,Rg.av,Rg.cells,Eff.cellsD,ha,ha19,hb,hata,hatb,wr0 ha.1 ha.2,trE,Eff.av,Eff.cells]
    exact fin (trE ⟨11, xa, xb, imm⟩ r ⟨5, 0, ⟨0, 0⟩⟩) _ (by unfold exec; rw [reff_ok hf]; simp [hal, isAlu, tabR, Res.eff, Pr.setA, Pr.toPc, Pr.p1, Pr.start, Pr.set7, o0, m1, m2, m7, mp, trE])
  | some v =>
    rw [hal] at hA
    refine y_call (enters_of Tryd.func29 rfl (by decide)) (fun _ => ACalls.pure_use (hA) rfl rfl) ?_
    simp only [go_sem,Nat.reduceAdd,Nat.reduceSub,Nat.reduceEqDiff,Nat.reduceLT,Nat.reduceLeDiff,↓reduceIte,Int.reduceToNat,reduceCtorEq,Int.reduceLT,Int.reduceEq,Ins.av,Ins.cells,Sp.av,Rg.av,Rg.cells,Eff.cellsD,ha,ha19,hb,hata,hatb,wr0 ha.1 ha.2,trE,Eff.av,Eff.cells,aluV,Option.isSome_some,Option.getD_some]
    exact finN (m1 (o0 ⟨11, xa, xb, imm⟩ r) xa v) _ (by unfold exec; rw [reff_ok hf]; simp [hal, isAlu, tabR, Res.eff, Pr.setA, Pr.toPc, Pr.p1, Pr.start, Pr.set7, o0, m1, m2, m7, mp, trE]) rfl
theorem rx12_c (x : Ins) (hx : x.ok) (ho : x.op = 12) (s : Sp) (hs : s.ok) (r : Rg) (hr : r.wf) (hf : (ffault s (foot x r)).kind = 0) :
    ACalls Tryd.prog 22 [x.av, s.av, r.av] [] (fun u H => u = .ret (exec x s r).av ∧ H = []) := by
  refine ACalls.up ?_
  refine ACalls.intro (cs := []) (n := 175) Tryd.func22 rfl rfl rfl (by kernel_rfl) rfl ?_
  generalize hpost : (fun (u : Out) (H : Heap) => u = Out.ret (exec x s r).av ∧ H = []) = post
  have fin : ∀ (e : Eff) H, e = exec x s r → Up 0 post (.ret e.av) H := fun e H h => finv (Eff.av_lt e 0) (by rw [← hpost, ← h]; exact ⟨rfl, rfl⟩) H
  have finN : ∀ (e : Eff) H, e = exec x s r → e.data = [] → Up 0 post (.ret (.agg (e.cellsD dnil))) H := fun e H h hd => .le (.ret (.agg (leL_dnil e))) (LeH.refl _) (by have := fin e H h; unfold Eff.av Eff.cells at this; rwa [hd] at this)
  have ha : 0 ≤ x.a ∧ x.a < 8 := ⟨hx.a0, by have := hx.a7; omega⟩
  have hb : 0 ≤ x.b ∧ x.b < 8 := ⟨hx.b0, by have := hx.b7; omega⟩
  have ha19 : x.a.toNat + 1 ≤ 19 := by omega
  have hata := r.at hx.a0 hx.a7
  have hatb := r.at hx.b0 hx.b7
  have hfa := ffault0 hf
  obtain ⟨op, xa, xb, imm⟩ := x
  simp only at ho ha hb ha19 hata hatb
  subst ho
  simp only [go_sem,Nat.reduceAdd,Nat.reduceSub,Nat.reduceEqDiff,Nat.reduceLT,Nat.reduceLeDiff,↓reduceIte,Int.reduceToNat,reduceCtorEq,Int.reduceLT,Int.reduceEq,Ins.av,Ins.cells,Sp.av,Rg.av,Rg.cells]
  refine draw [.qu 0 0, .qu 0 0, .qu 0 0, .qu 0 0, .qu 0 0, .qu 0 0] (by kernel_rfl) (by kernel_rfl) ?_
  simp only [go_sem,Nat.reduceAdd,Nat.reduceSub,Nat.reduceEqDiff,Nat.reduceLT,Nat.reduceLeDiff,↓reduceIte,Int.reduceToNat,reduceCtorEq,Int.reduceLT,Int.reduceEq]
  refine y_call (enters_of Tryd.func35 rfl (by decide)) (fun _ => ACalls.pure_use (rilen_c _ hx) rfl rfl) ?_
  simp only [go_sem,Nat.reduceAdd,Nat.reduceSub,Nat.reduceEqDiff,Nat.reduceLT,Nat.reduceLeDiff,↓reduceIte,Int.reduceToNat,reduceCtorEq,Int.reduceLT,Int.reduceEq]
  refine rK_use (enters_of Tryd.func34 rfl (by decide)) (ACalls.pure_use (rfootprint_c _ hx r hr) rfl rfl) ?_
  simp only [go_sem,Nat.reduceAdd,Nat.reduceSub,Nat.reduceEqDiff,Nat.reduceLT,Nat.reduceLeDiff,↓reduceIte,Int.reduceToNat,reduceCtorEq,Int.reduceLT,Int.reduceEq]
  refine rK_use (enters_of Tryd.func55 rfl (by decide)) (ACalls.pure_use (rFault_c s hs (foot ⟨12, xa, xb, imm⟩ r) (foot_len _ r) (foot_size _ r)) rfl rfl) ?_
  simp only [go_sem,Nat.reduceAdd,Nat.reduceSub,Nat.reduceEqDiff,Nat.reduceLT,Nat.reduceLeDiff,↓reduceIte,Int.reduceToNat,reduceCtorEq,Int.reduceLT,Int.reduceEq,Flt.cells,hf]
  refine rK_use (enters_of Tryd.func28 rfl (by decide)) (ACalls.pure_use (isAlu_c 12) rfl rfl) ?_
  rw [show isAlu 12 = true from rfl]
  have hA := ralu_c 12 (r.get xa) (r.get xb) (hr.get _)
  simp only [go_sem,Nat.reduceAdd,Nat.reduceSub,Nat.reduceEqDiff,Nat.reduceLT,Nat.reduceLeDiff,↓reduceIte,Int.reduceToNat,reduceCtorEq,Int.reduceLT,Int.reduceEq]
  refine draw [.qu 0 0, .qu 0 0, .qu 0 0, .qu 0 0, .qu 0 0, .qu 0 0, .qu 0 0, .qu 0 0, .qu 0 0, .qu 0 0, .qu 0 0, .qu 0 0, .qu 0 0, .qu 0 0, .qu 0 0, .qu 0 0, .qu 0 0, .qu 0 0] (by kernel_rfl) (by kernel_rfl) ?_
  simp only [go_sem,Nat.reduceAdd,Nat.reduceSub,Nat.reduceEqDiff,Nat.reduceLT,Nat.reduceLeDiff,↓reduceIte,Int.reduceToNat,reduceCtorEq,Int.reduceLT,Int.reduceEq,Ins.av,Ins.cells,Sp.av,Rg.av,Rg.cells,Eff.cellsD,ha,ha19,hb,hata,hatb,wr0 ha.1 ha.2,trE,Eff.av,Eff.cells]
  cases hal : alu 12 (r.get xa) (r.get xb) with
  | none =>
    rw [hal] at hA
    refine y_call (enters_of Tryd.func29 rfl (by decide)) (fun _ => ACalls.pure_use (hA) rfl rfl) ?_
    simp only [go_sem,Nat.reduceAdd,Nat.reduceSub,Nat.reduceEqDiff,Nat.reduceLT,Nat.reduceLeDiff,↓reduceIte,Int.reduceToNat,reduceCtorEq,Int.reduceLT,Int.reduceEq,Ins.av,Ins.cells,Sp.av,Rg.av,Rg.cells,Eff.cellsD,ha,ha19,hb,hata,hatb,wr0 ha.1 ha.2,trE,Eff.av,Eff.cells,aluV,Option.isSome_none]
    refine rK_use (enters_of Tryd.func56 rfl (by decide)) (ACalls.pure_use (trapped_c ⟨12, xa, xb, imm⟩ r ⟨5, 0, ⟨0, 0⟩⟩) rfl (by simp [AV.lt, ltL, Eff.av_lt])) ?_
    simp only [go_sem,Nat.reduceAdd,Nat.reduceSub,Nat.reduceEqDiff,Nat.reduceLT,Nat.reduceLeDiff,↓reduceIte,Int.reduceToNat,reduceCtorEq,Int.reduceLT,Int.reduceEq,Ins.av,Ins.cells,Sp.av,Rg.av,Rg.cells,Eff.cellsD,ha,ha19,hb,hata,hatb,wr0 ha.1 ha.2,trE,Eff.av,Eff.cells]
    exact fin (trE ⟨12, xa, xb, imm⟩ r ⟨5, 0, ⟨0, 0⟩⟩) _ (by unfold exec; rw [reff_ok hf]; simp [hal, isAlu, tabR, Res.eff, Pr.setA, Pr.toPc, Pr.p1, Pr.start, Pr.set7, o0, m1, m2, m7, mp, trE])
  | some v =>
    rw [hal] at hA
    refine y_call (enters_of Tryd.func29 rfl (by decide)) (fun _ => ACalls.pure_use (hA) rfl rfl) ?_
    simp only [go_sem,Nat.reduceAdd,Nat.reduceSub,Nat.reduceEqDiff,Nat.reduceLT,Nat.reduceLeDiff,↓reduceIte,Int.reduceToNat,reduceCtorEq,Int.reduceLT,Int.reduceEq,Ins.av,Ins.cells,Sp.av,Rg.av,Rg.cells,Eff.cellsD,ha,ha19,hb,hata,hatb,wr0 ha.1 ha.2,trE,Eff.av,Eff.cells,aluV,Option.isSome_some,Option.getD_some]
    exact finN (m1 (o0 ⟨12, xa, xb, imm⟩ r) xa v) _ (by unfold exec; rw [reff_ok hf]; simp [hal, isAlu, tabR, Res.eff, Pr.setA, Pr.toPc, Pr.p1, Pr.start, Pr.set7, o0, m1, m2, m7, mp, trE]) rfl
theorem rx13_c (x : Ins) (hx : x.ok) (ho : x.op = 13) (s : Sp) (hs : s.ok) (r : Rg) (hr : r.wf) (hf : (ffault s (foot x r)).kind = 0) :
    ACalls Tryd.prog 22 [x.av, s.av, r.av] [] (fun u H => u = .ret (exec x s r).av ∧ H = []) := by
  refine ACalls.up ?_
  refine ACalls.intro (cs := []) (n := 175) Tryd.func22 rfl rfl rfl (by kernel_rfl) rfl ?_
  generalize hpost : (fun (u : Out) (H : Heap) => u = Out.ret (exec x s r).av ∧ H = []) = post
  have fin : ∀ (e : Eff) H, e = exec x s r → Up 0 post (.ret e.av) H := fun e H h => finv (Eff.av_lt e 0) (by rw [← hpost, ← h]; exact ⟨rfl, rfl⟩) H
  have finN : ∀ (e : Eff) H, e = exec x s r → e.data = [] → Up 0 post (.ret (.agg (e.cellsD dnil))) H := fun e H h hd => .le (.ret (.agg (leL_dnil e))) (LeH.refl _) (by have := fin e H h; unfold Eff.av Eff.cells at this; rwa [hd] at this)
  have ha : 0 ≤ x.a ∧ x.a < 8 := ⟨hx.a0, by have := hx.a7; omega⟩
  have hb : 0 ≤ x.b ∧ x.b < 8 := ⟨hx.b0, by have := hx.b7; omega⟩
  have ha19 : x.a.toNat + 1 ≤ 19 := by omega
  have hata := r.at hx.a0 hx.a7
  have hatb := r.at hx.b0 hx.b7
  have hfa := ffault0 hf
  obtain ⟨op, xa, xb, imm⟩ := x
  simp only at ho ha hb ha19 hata hatb
  subst ho
  simp only [go_sem,Nat.reduceAdd,Nat.reduceSub,Nat.reduceEqDiff,Nat.reduceLT,Nat.reduceLeDiff,↓reduceIte,Int.reduceToNat,reduceCtorEq,Int.reduceLT,Int.reduceEq,Ins.av,Ins.cells,Sp.av,Rg.av,Rg.cells]
  refine draw [.qu 0 0, .qu 0 0, .qu 0 0, .qu 0 0, .qu 0 0, .qu 0 0] (by kernel_rfl) (by kernel_rfl) ?_
  simp only [go_sem,Nat.reduceAdd,Nat.reduceSub,Nat.reduceEqDiff,Nat.reduceLT,Nat.reduceLeDiff,↓reduceIte,Int.reduceToNat,reduceCtorEq,Int.reduceLT,Int.reduceEq]
  refine y_call (enters_of Tryd.func35 rfl (by decide)) (fun _ => ACalls.pure_use (rilen_c _ hx) rfl rfl) ?_
  simp only [go_sem,Nat.reduceAdd,Nat.reduceSub,Nat.reduceEqDiff,Nat.reduceLT,Nat.reduceLeDiff,↓reduceIte,Int.reduceToNat,reduceCtorEq,Int.reduceLT,Int.reduceEq]
  refine rK_use (enters_of Tryd.func34 rfl (by decide)) (ACalls.pure_use (rfootprint_c _ hx r hr) rfl rfl) ?_
  simp only [go_sem,Nat.reduceAdd,Nat.reduceSub,Nat.reduceEqDiff,Nat.reduceLT,Nat.reduceLeDiff,↓reduceIte,Int.reduceToNat,reduceCtorEq,Int.reduceLT,Int.reduceEq]
  refine rK_use (enters_of Tryd.func55 rfl (by decide)) (ACalls.pure_use (rFault_c s hs (foot ⟨13, xa, xb, imm⟩ r) (foot_len _ r) (foot_size _ r)) rfl rfl) ?_
  simp only [go_sem,Nat.reduceAdd,Nat.reduceSub,Nat.reduceEqDiff,Nat.reduceLT,Nat.reduceLeDiff,↓reduceIte,Int.reduceToNat,reduceCtorEq,Int.reduceLT,Int.reduceEq,Flt.cells,hf]
  refine rK_use (enters_of Tryd.func28 rfl (by decide)) (ACalls.pure_use (isAlu_c 13) rfl rfl) ?_
  rw [show isAlu 13 = true from rfl]
  have hA := ralu_c 13 (r.get xa) (r.get xb) (hr.get _)
  simp only [go_sem,Nat.reduceAdd,Nat.reduceSub,Nat.reduceEqDiff,Nat.reduceLT,Nat.reduceLeDiff,↓reduceIte,Int.reduceToNat,reduceCtorEq,Int.reduceLT,Int.reduceEq]
  refine draw [.qu 0 0, .qu 0 0, .qu 0 0, .qu 0 0, .qu 0 0, .qu 0 0, .qu 0 0, .qu 0 0, .qu 0 0, .qu 0 0, .qu 0 0, .qu 0 0, .qu 0 0, .qu 0 0, .qu 0 0, .qu 0 0, .qu 0 0, .qu 0 0] (by kernel_rfl) (by kernel_rfl) ?_
  simp only [go_sem,Nat.reduceAdd,Nat.reduceSub,Nat.reduceEqDiff,Nat.reduceLT,Nat.reduceLeDiff,↓reduceIte,Int.reduceToNat,reduceCtorEq,Int.reduceLT,Int.reduceEq,Ins.av,Ins.cells,Sp.av,Rg.av,Rg.cells,Eff.cellsD,ha,ha19,hb,hata,hatb,wr0 ha.1 ha.2,trE,Eff.av,Eff.cells]
  cases hal : alu 13 (r.get xa) (r.get xb) with
  | none =>
    rw [hal] at hA
    refine y_call (enters_of Tryd.func29 rfl (by decide)) (fun _ => ACalls.pure_use (hA) rfl rfl) ?_
    simp only [go_sem,Nat.reduceAdd,Nat.reduceSub,Nat.reduceEqDiff,Nat.reduceLT,Nat.reduceLeDiff,↓reduceIte,Int.reduceToNat,reduceCtorEq,Int.reduceLT,Int.reduceEq,Ins.av,Ins.cells,Sp.av,Rg.av,Rg.cells,Eff.cellsD,ha,ha19,hb,hata,hatb,wr0 ha.1 ha.2,trE,Eff.av,Eff.cells,aluV,Option.isSome_none]
    refine rK_use (enters_of Tryd.func56 rfl (by decide)) (ACalls.pure_use (trapped_c ⟨13, xa, xb, imm⟩ r ⟨5, 0, ⟨0, 0⟩⟩) rfl (by simp [AV.lt, ltL, Eff.av_lt])) ?_
    simp only [go_sem,Nat.reduceAdd,Nat.reduceSub,Nat.reduceEqDiff,Nat.reduceLT,Nat.reduceLeDiff,↓reduceIte,Int.reduceToNat,reduceCtorEq,Int.reduceLT,Int.reduceEq,Ins.av,Ins.cells,Sp.av,Rg.av,Rg.cells,Eff.cellsD,ha,ha19,hb,hata,hatb,wr0 ha.1 ha.2,trE,Eff.av,Eff.cells]
    exact fin (trE ⟨13, xa, xb, imm⟩ r ⟨5, 0, ⟨0, 0⟩⟩) _ (by unfold exec; rw [reff_ok hf]; simp [hal, isAlu, tabR, Res.eff, Pr.setA, Pr.toPc, Pr.p1, Pr.start, Pr.set7, o0, m1, m2, m7, mp, trE])
  | some v =>
    rw [hal] at hA
    refine y_call (enters_of Tryd.func29 rfl (by decide)) (fun _ => ACalls.pure_use (hA) rfl rfl) ?_
    simp only [go_sem,Nat.reduceAdd,Nat.reduceSub,Nat.reduceEqDiff,Nat.reduceLT,Nat.reduceLeDiff,↓reduceIte,Int.reduceToNat,reduceCtorEq,Int.reduceLT,Int.reduceEq,Ins.av,Ins.cells,Sp.av,Rg.av,Rg.cells,Eff.cellsD,ha,ha19,hb,hata,hatb,wr0 ha.1 ha.2,trE,Eff.av,Eff.cells,aluV,Option.isSome_some,Option.getD_some]
    exact finN (m1 (o0 ⟨13, xa, xb, imm⟩ r) xa v) _ (by unfold exec; rw [reff_ok hf]; simp [hal, isAlu, tabR, Res.eff, Pr.setA, Pr.toPc, Pr.p1, Pr.start, Pr.set7, o0, m1, m2, m7, mp, trE]) rfl
theorem rx14_c (x : Ins) (hx : x.ok) (ho : x.op = 14) (s : Sp) (hs : s.ok) (r : Rg) (hr : r.wf) (hf : (ffault s (foot x r)).kind = 0) :
    ACalls Tryd.prog 22 [x.av, s.av, r.av] [] (fun u H => u = .ret (exec x s r).av ∧ H = []) := by
  refine ACalls.up ?_
  refine ACalls.intro (cs := []) (n := 175) Tryd.func22 rfl rfl rfl (by kernel_rfl) rfl ?_
  generalize hpost : (fun (u : Out) (H : Heap) => u = Out.ret (exec x s r).av ∧ H = []) = post
  have fin : ∀ (e : Eff) H, e = exec x s r → Up 0 post (.ret e.av) H := fun e H h => finv (Eff.av_lt e 0) (by rw [← hpost, ← h]; exact ⟨rfl, rfl⟩) H
  have finN : ∀ (e : Eff) H, e = exec x s r → e.data = [] → Up 0 post (.ret (.agg (e.cellsD dnil))) H := fun e H h hd => .le (.ret (.agg (leL_dnil e))) (LeH.refl _) (by have := fin e H h; unfold Eff.av Eff.cells at this; rwa [hd] at this)
  have ha : 0 ≤ x.a ∧ x.a < 8 := ⟨hx.a0, by have := hx.a7; omega⟩
  have hb : 0 ≤ x.b ∧ x.b < 8 := ⟨hx.b0, by have := hx.b7; omega⟩
  have ha19 : x.a.toNat + 1 ≤ 19 := by omega
  have hata := r.at hx.a0 hx.a7
  have hatb := r.at hx.b0 hx.b7
  have hfa := ffault0 hf
  obtain ⟨op, xa, xb, imm⟩ := x
  simp only at ho ha hb ha19 hata hatb
  subst ho
  simp only [go_sem,Nat.reduceAdd,Nat.reduceSub,Nat.reduceEqDiff,Nat.reduceLT,Nat.reduceLeDiff,↓reduceIte,Int.reduceToNat,reduceCtorEq,Int.reduceLT,Int.reduceEq,Ins.av,Ins.cells,Sp.av,Rg.av,Rg.cells]
  refine draw [.qu 0 0, .qu 0 0, .qu 0 0, .qu 0 0, .qu 0 0, .qu 0 0] (by kernel_rfl) (by kernel_rfl) ?_
  simp only [go_sem,Nat.reduceAdd,Nat.reduceSub,Nat.reduceEqDiff,Nat.reduceLT,Nat.reduceLeDiff,↓reduceIte,Int.reduceToNat,reduceCtorEq,Int.reduceLT,Int.reduceEq]
  refine y_call (enters_of Tryd.func35 rfl (by decide)) (fun _ => ACalls.pure_use (rilen_c _ hx) rfl rfl) ?_
  simp only [go_sem,Nat.reduceAdd,Nat.reduceSub,Nat.reduceEqDiff,Nat.reduceLT,Nat.reduceLeDiff,↓reduceIte,Int.reduceToNat,reduceCtorEq,Int.reduceLT,Int.reduceEq]
  refine rK_use (enters_of Tryd.func34 rfl (by decide)) (ACalls.pure_use (rfootprint_c _ hx r hr) rfl rfl) ?_
  simp only [go_sem,Nat.reduceAdd,Nat.reduceSub,Nat.reduceEqDiff,Nat.reduceLT,Nat.reduceLeDiff,↓reduceIte,Int.reduceToNat,reduceCtorEq,Int.reduceLT,Int.reduceEq]
  refine rK_use (enters_of Tryd.func55 rfl (by decide)) (ACalls.pure_use (rFault_c s hs (foot ⟨14, xa, xb, imm⟩ r) (foot_len _ r) (foot_size _ r)) rfl rfl) ?_
  simp only [go_sem,Nat.reduceAdd,Nat.reduceSub,Nat.reduceEqDiff,Nat.reduceLT,Nat.reduceLeDiff,↓reduceIte,Int.reduceToNat,reduceCtorEq,Int.reduceLT,Int.reduceEq,Flt.cells,hf]
  refine rK_use (enters_of Tryd.func28 rfl (by decide)) (ACalls.pure_use (isAlu_c 14) rfl rfl) ?_
  rw [show isAlu 14 = true from rfl]
  have hA := ralu_c 14 (r.get xa) (r.get xb) (hr.get _)
  simp only [go_sem,Nat.reduceAdd,Nat.reduceSub,Nat.reduceEqDiff,Nat.reduceLT,Nat.reduceLeDiff,↓reduceIte,Int.reduceToNat,reduceCtorEq,Int.reduceLT,Int.reduceEq]
  refine draw [.qu 0 0, .qu 0 0, .qu 0 0, .qu 0 0, .qu 0 0, .qu 0 0, .qu 0 0, .qu 0 0, .qu 0 0, .qu 0 0, .qu 0 0, .qu 0 0, .qu 0 0, .qu 0 0, .qu 0 0, .qu 0 0, .qu 0 0, .qu 0 0] (by kernel_rfl) (by kernel_rfl) ?_
  simp only [go_sem,Nat.reduceAdd,Nat.reduceSub,Nat.reduceEqDiff,Nat.reduceLT,Nat.reduceLeDiff,↓reduceIte,Int.reduceToNat,reduceCtorEq,Int.reduceLT,Int.reduceEq,Ins.av,Ins.cells,Sp.av,Rg.av,Rg.cells,Eff.cellsD,ha,ha19,hb,hata,hatb,wr0 ha.1 ha.2,trE,Eff.av,Eff.cells]
  cases hal : alu 14 (r.get xa) (r.get xb) with
  | none =>
    rw [hal] at hA
    refine y_call (enters_of Tryd.func29 rfl (by decide)) (fun _ => ACalls.pure_use (hA) rfl rfl) ?_
    simp only [go_sem,Nat.reduceAdd,Nat.reduceSub,Nat.reduceEqDiff,Nat.reduceLT,Nat.reduceLeDiff,↓reduceIte,Int.reduceToNat,reduceCtorEq,Int.reduceLT,Int.reduceEq,Ins.av,Ins.cells,Sp.av,Rg.av,Rg.cells,Eff.cellsD,ha,ha19,hb,hata,hatb,wr0 ha.1 ha.2,trE,Eff.av,Eff.cells,aluV,Option.isSome_none]
    refine rK_use (enters_of Tryd.func56 rfl (by decide)) (ACalls.pure_use (trapped_c ⟨14, xa, xb, imm⟩ r ⟨5, 0, ⟨0, 0⟩⟩) rfl (by simp [AV.lt, ltL, Eff.av_lt])) ?_
    simp only [go_sem,Nat.reduceAdd,Nat.reduceSub,Nat.reduceEqDiff,Nat.reduceLT,Nat.reduceLeDiff,↓reduceIte,Int.reduceToNat,reduceCtorEq,Int.reduceLT,Int.reduceEq,Ins.av,Ins.cells,Sp.av,Rg.av,Rg.cells,Eff.cellsD,ha,ha19,hb,hata,hatb,wr0 ha.1 ha.2,trE,Eff.av,Eff.cells]
    exact fin (trE ⟨14, xa, xb, imm⟩ r ⟨5, 0, ⟨0, 0⟩⟩) _ (by unfold exec; rw [reff_ok hf]; simp [hal, isAlu, tabR, Res.eff, Pr.setA, Pr.toPc, Pr.p1, Pr.start, Pr.set7, o0, m1, m2, m7, mp, trE])
  | some v =>
    rw [hal] at hA
    refine y_call (enters_of Tryd.func29 rfl (by decide)) (fun _ => ACalls.pure_use (hA) rfl rfl) ?_
    simp only [go_sem,Nat.reduceAdd,Nat.reduceSub,Nat.reduceEqDiff,Nat.reduceLT,Nat.reduceLeDiff,↓reduceIte,Int.reduceToNat,reduceCtorEq,Int.reduceLT,Int.reduceEq,Ins.av,Ins.cells,Sp.av,Rg.av,Rg.cells,Eff.cellsD,ha,ha19,hb,hata,hatb,wr0 ha.1 ha.2,trE,Eff.av,Eff.cells,aluV,Option.isSome_some,Option.getD_some]
    exact finN (m1 (o0 ⟨14, xa, xb, imm⟩ r) xa v) _ (by unfold exec; rw [reff_ok hf]; simp [hal, isAlu, tabR, Res.eff, Pr.setA, Pr.toPc, Pr.p1, Pr.start, Pr.set7, o0, m1, m2, m7, mp, trE]) rfl
theorem rx15_c (x : Ins) (hx : x.ok) (ho : x.op = 15) (s : Sp) (hs : s.ok) (r : Rg) (hr : r.wf) (hf : (ffault s (foot x r)).kind = 0) :
    ACalls Tryd.prog 22 [x.av, s.av, r.av] [] (fun u H => u = .ret (exec x s r).av ∧ H = []) := by
  refine ACalls.up ?_
  refine ACalls.intro (cs := []) (n := 175) Tryd.func22 rfl rfl rfl (by kernel_rfl) rfl ?_
  generalize hpost : (fun (u : Out) (H : Heap) => u = Out.ret (exec x s r).av ∧ H = []) = post
  have fin : ∀ (e : Eff) H, e = exec x s r → Up 0 post (.ret e.av) H := fun e H h => finv (Eff.av_lt e 0) (by rw [← hpost, ← h]; exact ⟨rfl, rfl⟩) H
  have finN : ∀ (e : Eff) H, e = exec x s r → e.data = [] → Up 0 post (.ret (.agg (e.cellsD dnil))) H := fun e H h hd => .le (.ret (.agg (leL_dnil e))) (LeH.refl _) (by have := fin e H h; unfold Eff.av Eff.cells at this; rwa [hd] at this)
  have ha : 0 ≤ x.a ∧ x.a < 8 := ⟨hx.a0, by have := hx.a7; omega⟩
  have hb : 0 ≤ x.b ∧ x.b < 8 := ⟨hx.b0, by have := hx.b7; omega⟩
  have ha19 : x.a.toNat + 1 ≤ 19 := by omega
  have hata := r.at hx.a0 hx.a7
  have hatb := r.at hx.b0 hx.b7
  have hfa := ffault0 hf
  obtain ⟨op, xa, xb, imm⟩ := x
  simp only at ho ha hb ha19 hata hatb
  subst ho
  simp only [go_sem,Nat.reduceAdd,Nat.reduceSub,Nat.reduceEqDiff,Nat.reduceLT,Nat.reduceLeDiff,↓reduceIte,Int.reduceToNat,reduceCtorEq,Int.reduceLT,Int.reduceEq,Ins.av,Ins.cells,Sp.av,Rg.av,Rg.cells]
  refine draw [.qu 0 0, .qu 0 0, .qu 0 0, .qu 0 0, .qu 0 0, .qu 0 0] (by kernel_rfl) (by kernel_rfl) ?_
  simp only [go_sem,Nat.reduceAdd,Nat.reduceSub,Nat.reduceEqDiff,Nat.reduceLT,Nat.reduceLeDiff,↓reduceIte,Int.reduceToNat,reduceCtorEq,Int.reduceLT,Int.reduceEq]
  refine y_call (enters_of Tryd.func35 rfl (by decide)) (fun _ => ACalls.pure_use (rilen_c _ hx) rfl rfl) ?_
  simp only [go_sem,Nat.reduceAdd,Nat.reduceSub,Nat.reduceEqDiff,Nat.reduceLT,Nat.reduceLeDiff,↓reduceIte,Int.reduceToNat,reduceCtorEq,Int.reduceLT,Int.reduceEq]
  refine rK_use (enters_of Tryd.func34 rfl (by decide)) (ACalls.pure_use (rfootprint_c _ hx r hr) rfl rfl) ?_
  simp only [go_sem,Nat.reduceAdd,Nat.reduceSub,Nat.reduceEqDiff,Nat.reduceLT,Nat.reduceLeDiff,↓reduceIte,Int.reduceToNat,reduceCtorEq,Int.reduceLT,Int.reduceEq]
  refine rK_use (enters_of Tryd.func55 rfl (by decide)) (ACalls.pure_use (rFault_c s hs (foot ⟨15, xa, xb, imm⟩ r) (foot_len _ r) (foot_size _ r)) rfl rfl) ?_
  simp only [go_sem,Nat.reduceAdd,Nat.reduceSub,Nat.reduceEqDiff,Nat.reduceLT,Nat.reduceLeDiff,↓reduceIte,Int.reduceToNat,reduceCtorEq,Int.reduceLT,Int.reduceEq,Flt.cells,hf]
  refine rK_use (enters_of Tryd.func28 rfl (by decide)) (ACalls.pure_use (isAlu_c 15) rfl rfl) ?_
  rw [show isAlu 15 = true from rfl]
  have hA := ralu_c 15 (r.get xa) (r.get xb) (hr.get _)
  simp only [go_sem,Nat.reduceAdd,Nat.reduceSub,Nat.reduceEqDiff,Nat.reduceLT,Nat.reduceLeDiff,↓reduceIte,Int.reduceToNat,reduceCtorEq,Int.reduceLT,Int.reduceEq]
  refine draw [.qu 0 0, .qu 0 0, .qu 0 0, .qu 0 0, .qu 0 0, .qu 0 0, .qu 0 0, .qu 0 0, .qu 0 0, .qu 0 0, .qu 0 0, .qu 0 0, .qu 0 0, .qu 0 0, .qu 0 0, .qu 0 0, .qu 0 0, .qu 0 0] (by kernel_rfl) (by kernel_rfl) ?_
  simp only [go_sem,Nat.reduceAdd,Nat.reduceSub,Nat.reduceEqDiff,Nat.reduceLT,Nat.reduceLeDiff,↓reduceIte,Int.reduceToNat,reduceCtorEq,Int.reduceLT,Int.reduceEq,Ins.av,Ins.cells,Sp.av,Rg.av,Rg.cells,Eff.cellsD,ha,ha19,hb,hata,hatb,wr0 ha.1 ha.2,trE,Eff.av,Eff.cells]
  cases hal : alu 15 (r.get xa) (r.get xb) with
  | none =>
    rw [hal] at hA
    refine y_call (enters_of Tryd.func29 rfl (by decide)) (fun _ => ACalls.pure_use (hA) rfl rfl) ?_
    simp only [go_sem,Nat.reduceAdd,Nat.reduceSub,Nat.reduceEqDiff,Nat.reduceLT,Nat.reduceLeDiff,↓reduceIte,Int.reduceToNat,reduceCtorEq,Int.reduceLT,Int.reduceEq,Ins.av,Ins.cells,Sp.av,Rg.av,Rg.cells,Eff.cellsD,ha,ha19,hb,hata,hatb,wr0 ha.1 ha.2,trE,Eff.av,Eff.cells,aluV,Option.isSome_none]
    refine rK_use (enters_of Tryd.func56 rfl (by decide)) (ACalls.pure_use (trapped_c ⟨15, xa, xb, imm⟩ r ⟨5, 0, ⟨0, 0⟩⟩) rfl (by simp [AV.lt, ltL, Eff.av_lt])) ?_
    simp only [go_sem,Nat.reduceAdd,Nat.reduceSub,Nat.reduceEqDiff,Nat.reduceLT,Nat.reduceLeDiff,↓reduceIte,Int.reduceToNat,reduceCtorEq,Int.reduceLT,Int.reduceEq,Ins.av,Ins.cells,Sp.av,Rg.av,Rg.cells,Eff.cellsD,ha,ha19,hb,hata,hatb,wr0 ha.1 ha.2,trE,Eff.av,Eff.cells]
    exact fin (trE ⟨15, xa, xb, imm⟩ r ⟨5, 0, ⟨0, 0⟩⟩) _ (by unfold exec; rw [reff_ok hf]; simp [hal, isAlu, tabR, Res.eff, Pr.setA, Pr.toPc, Pr.p1, Pr.start, Pr.set7, o0, m1, m2, m7, mp, trE])
  | some v =>
    rw [hal] at hA
    refine y_call (enters_of Tryd.func29 rfl (by decide)) (fun _ => ACalls.pure_use (hA) rfl rfl) ?_
    simp only [go_sem,Nat.reduceAdd,Nat.reduceSub,Nat.reduceEqDiff,Nat.reduceLT,Nat.reduceLeDiff,↓reduceIte,Int.reduceToNat,reduceCtorEq,Int.reduceLT,Int.reduceEq,Ins.av,Ins.cells,Sp.av,Rg.av,Rg.cells,Eff.cellsD,ha,ha19,hb,hata,hatb,wr0 ha.1 ha.2,trE,Eff.av,Eff.cells,aluV,Option.isSome_some,Option.getD_some]
    exact finN (m1 (o0 ⟨15, xa, xb, imm⟩ r) xa v) _ (by unfold exec; rw [reff_ok hf]; simp [hal, isAlu, tabR, Res.eff, Pr.setA, Pr.toPc, Pr.p1, Pr.start, Pr.set7, o0, m1, m2, m7, mp, trE]) rfl
theorem rx1_c (x : Ins) (hx : x.ok) (ho : x.op = 1) (s : Sp) (hs : s.ok) (r : Rg) (hr : r.wf) (hf : (ffault s (foot x r)).kind = 0) :
    ACalls Tryd.prog 22 [x.av, s.av, r.av] [] (fun u H => u = .ret (exec x s r).av ∧ H = []) := by
  refine ACalls.up ?_
  refine ACalls.intro (cs := []) (n := 175) Tryd.func22 rfl rfl rfl (by kernel_rfl) rfl ?_
  generalize hpost : (fun (u : Out) (H : Heap) => u = Out.ret (exec x s r).av ∧ H = []) = post
  have fin : ∀ (e : Eff) H, e = exec x s r → Up 0 post (.ret e.av) H := fun e H h => finv (Eff.av_lt e 0) (by rw [← hpost, ← h]; exact ⟨rfl, rfl⟩) H
  have finN : ∀ (e : Eff) H, e = exec x s r → e.data = [] → Up 0 post (.ret (.agg (e.cellsD dnil))) H := fun e H h hd => .le (.ret (.agg (leL_dnil e))) (LeH.refl _) (by have := fin e H h; unfold Eff.av Eff.cells at this; rwa [hd] at this)
  have ha : 0 ≤ x.a ∧ x.a < 8 := ⟨hx.a0, by have := hx.a7; omega⟩
  have hb : 0 ≤ x.b ∧ x.b < 8 := ⟨hx.b0, by have := hx.b7; omega⟩
  have ha19 : x.a.toNat + 1 ≤ 19 := by omega
  have hata := r.at hx.a0 hx.a7
  have hatb := r.at hx.b0 hx.b7
  have hfa := ffault0 hf
  obtain ⟨op, xa, xb, imm⟩ := x
  simp only at ho ha hb ha19 hata hatb
  subst ho
  simp only [go_sem,Nat.reduceAdd,Nat.reduceSub,Nat.reduceEqDiff,Nat.reduceLT,Nat.reduceLeDiff,↓reduceIte,Int.reduceToNat,reduceCtorEq,Int.reduceLT,Int.reduceEq,Ins.av,Ins.cells,Sp.av,Rg.av,Rg.cells]
  refine draw [.qu 0 0, .qu 0 0, .qu 0 0, .qu 0 0, .qu 0 0, .qu 0 0] (by kernel_rfl) (by kernel_rfl) ?_
  simp only [go_sem,Nat.reduceAdd,Nat.reduceSub,Nat.reduceEqDiff,Nat.reduceLT,Nat.reduceLeDiff,↓reduceIte,Int.reduceToNat,reduceCtorEq,Int.reduceLT,Int.reduceEq]
  refine y_call (enters_of Tryd.func35 rfl (by decide)) (fun _ => ACalls.pure_use (rilen_c _ hx) rfl rfl) ?_
  simp only [go_sem,Nat.reduceAdd,Nat.reduceSub,Nat.reduceEqDiff,Nat.reduceLT,Nat.reduceLeDiff,↓reduceIte,Int.reduceToNat,reduceCtorEq,Int.reduceLT,Int.reduceEq]
  refine rK_use (enters_of Tryd.func34 rfl (by decide)) (ACalls.pure_use (rfootprint_c _ hx r hr) rfl rfl) ?_
  simp only [go_sem,Nat.reduceAdd,Nat.reduceSub,Nat.reduceEqDiff,Nat.reduceLT,Nat.reduceLeDiff,↓reduceIte,Int.reduceToNat,reduceCtorEq,Int.reduceLT,Int.reduceEq]
  refine rK_use (enters_of Tryd.func55 rfl (by decide)) (ACalls.pure_use (rFault_c s hs (foot ⟨1, xa, xb, imm⟩ r) (foot_len _ r) (foot_size _ r)) rfl rfl) ?_
  simp only [go_sem,Nat.reduceAdd,Nat.reduceSub,Nat.reduceEqDiff,Nat.reduceLT,Nat.reduceLeDiff,↓reduceIte,Int.reduceToNat,reduceCtorEq,Int.reduceLT,Int.reduceEq,Flt.cells,hf]
  refine rK_use (enters_of Tryd.func28 rfl (by decide)) (ACalls.pure_use (isAlu_c 1) rfl rfl) ?_
  have ht : Ins.hasT ⟨1, xa, xb, imm⟩ = false := by simp [Ins.hasT, isBr]
  have hfo : foot ⟨1, xa, xb, imm⟩ r = [] := by simp [foot]
  rw [show isAlu 1 = false from rfl]
  simp only [go_sem,Nat.reduceAdd,Nat.reduceSub,Nat.reduceEqDiff,Nat.reduceLT,Nat.reduceLeDiff,↓reduceIte,Int.reduceToNat,reduceCtorEq,Int.reduceLT,Int.reduceEq,Ins.av,Ins.cells,Sp.av,Rg.av,Rg.cells,Eff.cellsD,ha,ha19,hb,hata,hatb,wr0 ha.1 ha.2,trE,Eff.av,Eff.cells]
  refine rK_use (enters_of Tryd.func57 rfl (by decide)) (ACalls.pure_use (rtarget_c _ hx _) rfl rfl) ?_
  rw [ht]
  simp only [go_sem,Nat.reduceAdd,Nat.reduceSub,Nat.reduceEqDiff,Nat.reduceLT,Nat.reduceLeDiff,↓reduceIte,Int.reduceToNat,reduceCtorEq,Int.reduceLT,Int.reduceEq,Ins.av,Ins.cells,Sp.av,Rg.av,Rg.cells,Eff.cellsD,ha,ha19,hb,hata,hatb,wr0 ha.1 ha.2,trE,Eff.av,Eff.cells,hfo,Acc.row,List.length_map,o0,m1,m2,m7,mp,Rg.set]
  exact finN (o0 ⟨1, xa, xb, imm⟩ r) _ (by unfold exec; rw [reff_ok hf]; simp [isAlu, tabR, Res.eff, Pr.setA, Pr.toPc, Pr.p1, Pr.start, Pr.set7, o0, m1, m2, m7, mp, trE]) rfl
theorem rx2_c (x : Ins) (hx : x.ok) (ho : x.op = 2) (s : Sp) (hs : s.ok) (r : Rg) (hr : r.wf) (hf : (ffault s (foot x r)).kind = 0) :
    ACalls Tryd.prog 22 [x.av, s.av, r.av] [] (fun u H => u = .ret (exec x s r).av ∧ H = []) := by
  refine ACalls.up ?_
  refine ACalls.intro (cs := []) (n := 175) Tryd.func22 rfl rfl rfl (by kernel_rfl) rfl ?_
  generalize hpost : (fun (u : Out) (H : Heap) => u = Out.ret (exec x s r).av ∧ H = []) = post
  have fin : ∀ (e : Eff) H, e = exec x s r → Up 0 post (.ret e.av) H := fun e H h => finv (Eff.av_lt e 0) (by rw [← hpost, ← h]; exact ⟨rfl, rfl⟩) H
  have finN : ∀ (e : Eff) H, e = exec x s r → e.data = [] → Up 0 post (.ret (.agg (e.cellsD dnil))) H := fun e H h hd => .le (.ret (.agg (leL_dnil e))) (LeH.refl _) (by have := fin e H h; unfold Eff.av Eff.cells at this; rwa [hd] at this)
  have ha : 0 ≤ x.a ∧ x.a < 8 := ⟨hx.a0, by have := hx.a7; omega⟩
  have hb : 0 ≤ x.b ∧ x.b < 8 := ⟨hx.b0, by have := hx.b7; omega⟩
  have ha19 : x.a.toNat + 1 ≤ 19 := by omega
  have hata := r.at hx.a0 hx.a7
  have hatb := r.at hx.b0 hx.b7
  have hfa := ffault0 hf
  obtain ⟨op, xa, xb, imm⟩ := x
  simp only at ho ha hb ha19 hata hatb
  subst ho
  simp only [go_sem,Nat.reduceAdd,Nat.reduceSub,Nat.reduceEqDiff,Nat.reduceLT,Nat.reduceLeDiff,↓reduceIte,Int.reduceToNat,reduceCtorEq,Int.reduceLT,Int.reduceEq,Ins.av,Ins.cells,Sp.av,Rg.av,Rg.cells]
  refine draw [.qu 0 0, .qu 0 0, .qu 0 0, .qu 0 0, .qu 0 0, .qu 0 0] (by kernel_rfl) (by kernel_rfl) ?_
  simp only [go_sem,Nat.reduceAdd,Nat.reduceSub,Nat.reduceEqDiff,Nat.reduceLT,Nat.reduceLeDiff,↓reduceIte,Int.reduceToNat,reduceCtorEq,Int.reduceLT,Int.reduceEq]
  refine y_call (enters_of Tryd.func35 rfl (by decide)) (fun _ => ACalls.pure_use (rilen_c _ hx) rfl rfl) ?_
  simp only [go_sem,Nat.reduceAdd,Nat.reduceSub,Nat.reduceEqDiff,Nat.reduceLT,Nat.reduceLeDiff,↓reduceIte,Int.reduceToNat,reduceCtorEq,Int.reduceLT,Int.reduceEq]
  refine rK_use (enters_of Tryd.func34 rfl (by decide)) (ACalls.pure_use (rfootprint_c _ hx r hr) rfl rfl) ?_
  simp only [go_sem,Nat.reduceAdd,Nat.reduceSub,Nat.reduceEqDiff,Nat.reduceLT,Nat.reduceLeDiff,↓reduceIte,Int.reduceToNat,reduceCtorEq,Int.reduceLT,Int.reduceEq]
  refine rK_use (enters_of Tryd.func55 rfl (by decide)) (ACalls.pure_use (rFault_c s hs (foot ⟨2, xa, xb, imm⟩ r) (foot_len _ r) (foot_size _ r)) rfl rfl) ?_
  simp only [go_sem,Nat.reduceAdd,Nat.reduceSub,Nat.reduceEqDiff,Nat.reduceLT,Nat.reduceLeDiff,↓reduceIte,Int.reduceToNat,reduceCtorEq,Int.reduceLT,Int.reduceEq,Flt.cells,hf]
  refine rK_use (enters_of Tryd.func28 rfl (by decide)) (ACalls.pure_use (isAlu_c 2) rfl rfl) ?_
  have ht : Ins.hasT ⟨2, xa, xb, imm⟩ = false := by simp [Ins.hasT, isBr]
  have hfo : foot ⟨2, xa, xb, imm⟩ r = [] := by simp [foot]
  rw [show isAlu 2 = false from rfl]
  simp only [go_sem,Nat.reduceAdd,Nat.reduceSub,Nat.reduceEqDiff,Nat.reduceLT,Nat.reduceLeDiff,↓reduceIte,Int.reduceToNat,reduceCtorEq,Int.reduceLT,Int.reduceEq,Ins.av,Ins.cells,Sp.av,Rg.av,Rg.cells,Eff.cellsD,ha,ha19,hb,hata,hatb,wr0 ha.1 ha.2,trE,Eff.av,Eff.cells]
  refine rK_use (enters_of Tryd.func57 rfl (by decide)) (ACalls.pure_use (rtarget_c _ hx _) rfl rfl) ?_
  rw [ht]
  simp only [go_sem,Nat.reduceAdd,Nat.reduceSub,Nat.reduceEqDiff,Nat.reduceLT,Nat.reduceLeDiff,↓reduceIte,Int.reduceToNat,reduceCtorEq,Int.reduceLT,Int.reduceEq,Ins.av,Ins.cells,Sp.av,Rg.av,Rg.cells,Eff.cellsD,ha,ha19,hb,hata,hatb,wr0 ha.1 ha.2,trE,Eff.av,Eff.cells,hfo,Acc.row,List.length_map,o0,m1,m2,m7,mp,Rg.set]
  refine draw [.qu 0 0, .qu 0 0, .qu 0 0, .qu 0 0, .qu 0 0, .qu 0 0, .qu 0 0, .qu 0 0, .qu 0 0, .qu 0 0, .mn 0] (by kernel_rfl) (by kernel_rfl) ?_
  simp only [go_sem,Nat.reduceAdd,Nat.reduceSub,Nat.reduceEqDiff,Nat.reduceLT,Nat.reduceLeDiff,↓reduceIte,Int.reduceToNat,reduceCtorEq,Int.reduceLT,Int.reduceEq,Ins.av,Ins.cells,Sp.av,Rg.av,Rg.cells,Eff.cellsD,ha,ha19,hb,hata,hatb,wr0 ha.1 ha.2,trE,Eff.av,Eff.cells,hfo,Acc.row,List.length_map,o0,m1,m2,m7,mp,Rg.set]
  exact finN (m1 (o0 ⟨2, xa, xb, imm⟩ r) xa (r.get xb)) _ (by unfold exec; rw [reff_ok hf]; simp [isAlu, tabR, Res.eff, Pr.setA, Pr.toPc, Pr.p1, Pr.start, Pr.set7, o0, m1, m2, m7, mp, trE]) rfl
theorem rx3_c (x : Ins) (hx : x.ok) (ho : x.op = 3) (s : Sp) (hs : s.ok) (r : Rg) (hr : r.wf) (hf : (ffault s (foot x r)).kind = 0) :
    ACalls Tryd.prog 22 [x.av, s.av, r.av] [] (fun u H => u = .ret (exec x s r).av ∧ H = []) := by
  refine ACalls.up ?_
  refine ACalls.intro (cs := []) (n := 175) Tryd.func22 rfl rfl rfl (by kernel_rfl) rfl ?_
  generalize hpost : (fun (u : Out) (H : Heap) => u = Out.ret (exec x s r).av ∧ H = []) = post
  have fin : ∀ (e : Eff) H, e = exec x s r → Up 0 post (.ret e.av) H := fun e H h => finv (Eff.av_lt e 0) (by rw [← hpost, ← h]; exact ⟨rfl, rfl⟩) H
  have finN : ∀ (e : Eff) H, e = exec x s r → e.data = [] → Up 0 post (.ret (.agg (e.cellsD dnil))) H := fun e H h hd => .le (.ret (.agg (leL_dnil e))) (LeH.refl _) (by have := fin e H h; unfold Eff.av Eff.cells at this; rwa [hd] at this)
  have ha : 0 ≤ x.a ∧ x.a < 8 := ⟨hx.a0, by have := hx.a7; omega⟩
  have hb : 0 ≤ x.b ∧ x.b < 8 := ⟨hx.b0, by have := hx.b7; omega⟩
  have ha19 : x.a.toNat + 1 ≤ 19 := by omega
  have hata := r.at hx.a0 hx.a7
  have hatb := r.at hx.b0 hx.b7
  have hfa := ffault0 hf
  obtain ⟨op, xa, xb, imm⟩ := x
  simp only at ho ha hb ha19 hata hatb
  subst ho
  simp only [go_sem,Nat.reduceAdd,Nat.reduceSub,Nat.reduceEqDiff,Nat.reduceLT,Nat.reduceLeDiff,↓reduceIte,Int.reduceToNat,reduceCtorEq,Int.reduceLT,Int.reduceEq,Ins.av,Ins.cells,Sp.av,Rg.av,Rg.cells]
  refine draw [.qu 0 0, .qu 0 0, .qu 0 0, .qu 0 0, .qu 0 0, .qu 0 0] (by kernel_rfl) (by kernel_rfl) ?_
  simp only [go_sem,Nat.reduceAdd,Nat.reduceSub,Nat.reduceEqDiff,Nat.reduceLT,Nat.reduceLeDiff,↓reduceIte,Int.reduceToNat,reduceCtorEq,Int.reduceLT,Int.reduceEq]
  refine y_call (enters_of Tryd.func35 rfl (by decide)) (fun _ => ACalls.pure_use (rilen_c _ hx) rfl rfl) ?_
  simp only [go_sem,Nat.reduceAdd,Nat.reduceSub,Nat.reduceEqDiff,Nat.reduceLT,Nat.reduceLeDiff,↓reduceIte,Int.reduceToNat,reduceCtorEq,Int.reduceLT,Int.reduceEq]
  refine rK_use (enters_of Tryd.func34 rfl (by decide)) (ACalls.pure_use (rfootprint_c _ hx r hr) rfl rfl) ?_
  simp only [go_sem,Nat.reduceAdd,Nat.reduceSub,Nat.reduceEqDiff,Nat.reduceLT,Nat.reduceLeDiff,↓reduceIte,Int.reduceToNat,reduceCtorEq,Int.reduceLT,Int.reduceEq]
  refine rK_use (enters_of Tryd.func55 rfl (by decide)) (ACalls.pure_use (rFault_c s hs (foot ⟨3, xa, xb, imm⟩ r) (foot_len _ r) (foot_size _ r)) rfl rfl) ?_
  simp only [go_sem,Nat.reduceAdd,Nat.reduceSub,Nat.reduceEqDiff,Nat.reduceLT,Nat.reduceLeDiff,↓reduceIte,Int.reduceToNat,reduceCtorEq,Int.reduceLT,Int.reduceEq,Flt.cells,hf]
  refine rK_use (enters_of Tryd.func28 rfl (by decide)) (ACalls.pure_use (isAlu_c 3) rfl rfl) ?_
  have ht : Ins.hasT ⟨3, xa, xb, imm⟩ = false := by simp [Ins.hasT, isBr]
  have hfo : foot ⟨3, xa, xb, imm⟩ r = [] := by simp [foot]
  rw [show isAlu 3 = false from rfl]
  simp only [go_sem,Nat.reduceAdd,Nat.reduceSub,Nat.reduceEqDiff,Nat.reduceLT,Nat.reduceLeDiff,↓reduceIte,Int.reduceToNat,reduceCtorEq,Int.reduceLT,Int.reduceEq,Ins.av,Ins.cells,Sp.av,Rg.av,Rg.cells,Eff.cellsD,ha,ha19,hb,hata,hatb,wr0 ha.1 ha.2,trE,Eff.av,Eff.cells]
  refine rK_use (enters_of Tryd.func57 rfl (by decide)) (ACalls.pure_use (rtarget_c _ hx _) rfl rfl) ?_
  rw [ht]
  simp only [go_sem,Nat.reduceAdd,Nat.reduceSub,Nat.reduceEqDiff,Nat.reduceLT,Nat.reduceLeDiff,↓reduceIte,Int.reduceToNat,reduceCtorEq,Int.reduceLT,Int.reduceEq,Ins.av,Ins.cells,Sp.av,Rg.av,Rg.cells,Eff.cellsD,ha,ha19,hb,hata,hatb,wr0 ha.1 ha.2,trE,Eff.av,Eff.cells,hfo,Acc.row,List.length_map,o0,m1,m2,m7,mp,Rg.set]
  exact finN (m1 (o0 ⟨3, xa, xb, imm⟩ r) xa imm) _ (by unfold exec; rw [reff_ok hf]; simp [isAlu, tabR, Res.eff, Pr.setA, Pr.toPc, Pr.p1, Pr.start, Pr.set7, o0, m1, m2, m7, mp, trE]) rfl
theorem rx4_c (x : Ins) (hx : x.ok) (ho : x.op = 4) (s : Sp) (hs : s.ok) (r : Rg) (hr : r.wf) (hf : (ffault s (foot x r)).kind = 0) :
    ACalls Tryd.prog 22 [x.av, s.av, r.av] [] (fun u H => u = .ret (exec x s r).av ∧ H = []) := by
  refine ACalls.up ?_
  refine ACalls.intro (cs := []) (n := 175) Tryd.func22 rfl rfl rfl (by kernel_rfl) rfl ?_
  generalize hpost : (fun (u : Out) (H : Heap) => u = Out.ret (exec x s r).av ∧ H = []) = post
  have fin : ∀ (e : Eff) H, e = exec x s r → Up 0 post (.ret e.av) H := fun e H h => finv (Eff.av_lt e 0) (by rw [← hpost, ← h]; exact ⟨rfl, rfl⟩) H
  have finN : ∀ (e : Eff) H, e = exec x s r → e.data = [] → Up 0 post (.ret (.agg (e.cellsD dnil))) H := fun e H h hd => .le (.ret (.agg (leL_dnil e))) (LeH.refl _) (by have := fin e H h; unfold Eff.av Eff.cells at this; rwa [hd] at this)
  have ha : 0 ≤ x.a ∧ x.a < 8 := ⟨hx.a0, by have := hx.a7; omega⟩
  have hb : 0 ≤ x.b ∧ x.b < 8 := ⟨hx.b0, by have := hx.b7; omega⟩
  have ha19 : x.a.toNat + 1 ≤ 19 := by omega
  have hata := r.at hx.a0 hx.a7
  have hatb := r.at hx.b0 hx.b7
  have hfa := ffault0 hf
  obtain ⟨op, xa, xb, imm⟩ := x
  simp only at ho ha hb ha19 hata hatb
  subst ho
  simp only [go_sem,Nat.reduceAdd,Nat.reduceSub,Nat.reduceEqDiff,Nat.reduceLT,Nat.reduceLeDiff,↓reduceIte,Int.reduceToNat,reduceCtorEq,Int.reduceLT,Int.reduceEq,Ins.av,Ins.cells,Sp.av,Rg.av,Rg.cells]
  refine draw [.qu 0 0, .qu 0 0, .qu 0 0, .qu 0 0, .qu 0 0, .qu 0 0] (by kernel_rfl) (by kernel_rfl) ?_
  simp only [go_sem,Nat.reduceAdd,Nat.reduceSub,Nat.reduceEqDiff,Nat.reduceLT,Nat.reduceLeDiff,↓reduceIte,Int.reduceToNat,reduceCtorEq,Int.reduceLT,Int.reduceEq]
  refine y_call (enters_of Tryd.func35 rfl (by decide)) (fun _ => ACalls.pure_use (rilen_c _ hx) rfl rfl) ?_
  simp only [go_sem,Nat.reduceAdd,Nat.reduceSub,Nat.reduceEqDiff,Nat.reduceLT,Nat.reduceLeDiff,↓reduceIte,Int.reduceToNat,reduceCtorEq,Int.reduceLT,Int.reduceEq]
  refine rK_use (enters_of Tryd.func34 rfl (by decide)) (ACalls.pure_use (rfootprint_c _ hx r hr) rfl rfl) ?_
  simp only [go_sem,Nat.reduceAdd,Nat.reduceSub,Nat.reduceEqDiff,Nat.reduceLT,Nat.reduceLeDiff,↓reduceIte,Int.reduceToNat,reduceCtorEq,Int.reduceLT,Int.reduceEq]
  refine rK_use (enters_of Tryd.func55 rfl (by decide)) (ACalls.pure_use (rFault_c s hs (foot ⟨4, xa, xb, imm⟩ r) (foot_len _ r) (foot_size _ r)) rfl rfl) ?_
  simp only [go_sem,Nat.reduceAdd,Nat.reduceSub,Nat.reduceEqDiff,Nat.reduceLT,Nat.reduceLeDiff,↓reduceIte,Int.reduceToNat,reduceCtorEq,Int.reduceLT,Int.reduceEq,Flt.cells,hf]
  refine rK_use (enters_of Tryd.func28 rfl (by decide)) (ACalls.pure_use (isAlu_c 4) rfl rfl) ?_
  have ht : Ins.hasT ⟨4, xa, xb, imm⟩ = false := by simp [Ins.hasT, isBr]
  have hfo : foot ⟨4, xa, xb, imm⟩ r = [] := by simp [foot]
  rw [show isAlu 4 = false from rfl]
  simp only [go_sem,Nat.reduceAdd,Nat.reduceSub,Nat.reduceEqDiff,Nat.reduceLT,Nat.reduceLeDiff,↓reduceIte,Int.reduceToNat,reduceCtorEq,Int.reduceLT,Int.reduceEq,Ins.av,Ins.cells,Sp.av,Rg.av,Rg.cells,Eff.cellsD,ha,ha19,hb,hata,hatb,wr0 ha.1 ha.2,trE,Eff.av,Eff.cells]
  refine rK_use (enters_of Tryd.func57 rfl (by decide)) (ACalls.pure_use (rtarget_c _ hx _) rfl rfl) ?_
  rw [ht]
  simp only [go_sem,Nat.reduceAdd,Nat.reduceSub,Nat.reduceEqDiff,Nat.reduceLT,Nat.reduceLeDiff,↓reduceIte,Int.reduceToNat,reduceCtorEq,Int.reduceLT,Int.reduceEq,Ins.av,Ins.cells,Sp.av,Rg.av,Rg.cells,Eff.cellsD,ha,ha19,hb,hata,hatb,wr0 ha.1 ha.2,trE,Eff.av,Eff.cells,hfo,Acc.row,List.length_map,o0,m1,m2,m7,mp,Rg.set]
  exact finN (m1 (o0 ⟨4, xa, xb, imm⟩ r) xa imm) _ (by unfold exec; rw [reff_ok hf]; simp [isAlu, tabR, Res.eff, Pr.setA, Pr.toPc, Pr.p1, Pr.start, Pr.set7, o0, m1, m2, m7, mp, trE]) rfl
theorem rx16_c (x : Ins) (hx : x.ok) (ho : x.op = 16) (s : Sp) (hs : s.ok) (r : Rg) (hr : r.wf) (hf : (ffault s (foot x r)).kind = 0) :
    ACalls Tryd.prog 22 [x.av, s.av, r.av] [] (fun u H => u = .ret (exec x s r).av ∧ H = []) := by
  refine ACalls.up ?_
  refine ACalls.intro (cs := []) (n := 175) Tryd.func22 rfl rfl rfl (by kernel_rfl) rfl ?_
  generalize hpost : (fun (u : Out) (H : Heap) => u = Out.ret (exec x s r).av ∧ H = []) = post
  have fin : ∀ (e : Eff) H, e = exec x s r → Up 0 post (.ret e.av) H := fun e H h => finv (Eff.av_lt e 0) (by rw [← hpost, ← h]; exact ⟨rfl, rfl⟩) H
  have finN : ∀ (e : Eff) H, e = exec x s r → e.data = [] → Up 0 post (.ret (.agg (e.cellsD dnil))) H := fun e H h hd => .le (.ret (.agg (leL_dnil e))) (LeH.refl _) (by have := fin e H h; unfold Eff.av Eff.cells at this; rwa [hd] at this)
  have ha : 0 ≤ x.a ∧ x.a < 8 := ⟨hx.a0, by have := hx.a7; omega⟩
  have hb : 0 ≤ x.b ∧ x.b < 8 := ⟨hx.b0, by have := hx.b7; omega⟩
  have ha19 : x.a.toNat + 1 ≤ 19 := by omega
  have hata := r.at hx.a0 hx.a7
  have hatb := r.at hx.b0 hx.b7
  have hfa := ffault0 hf
  obtain ⟨op, xa, xb, imm⟩ := x
  simp only at ho ha hb ha19 hata hatb
  subst ho
  simp only [go_sem,Nat.reduceAdd,Nat.reduceSub,Nat.reduceEqDiff,Nat.reduceLT,Nat.reduceLeDiff,↓reduceIte,Int.reduceToNat,reduceCtorEq,Int.reduceLT,Int.reduceEq,Ins.av,Ins.cells,Sp.av,Rg.av,Rg.cells]
  refine draw [.qu 0 0, .qu 0 0, .qu 0 0, .qu 0 0, .qu 0 0, .qu 0 0] (by kernel_rfl) (by kernel_rfl) ?_
  simp only [go_sem,Nat.reduceAdd,Nat.reduceSub,Nat.reduceEqDiff,Nat.reduceLT,Nat.reduceLeDiff,↓reduceIte,Int.reduceToNat,reduceCtorEq,Int.reduceLT,Int.reduceEq]
  refine y_call (enters_of Tryd.func35 rfl (by decide)) (fun _ => ACalls.pure_use (rilen_c _ hx) rfl rfl) ?_
  simp only [go_sem,Nat.reduceAdd,Nat.reduceSub,Nat.reduceEqDiff,Nat.reduceLT,Nat.reduceLeDiff,↓reduceIte,Int.reduceToNat,reduceCtorEq,Int.reduceLT,Int.reduceEq]
  refine rK_use (enters_of Tryd.func34 rfl (by decide)) (ACalls.pure_use (rfootprint_c _ hx r hr) rfl rfl) ?_
  simp only [go_sem,Nat.reduceAdd,Nat.reduceSub,Nat.reduceEqDiff,Nat.reduceLT,Nat.reduceLeDiff,↓reduceIte,Int.reduceToNat,reduceCtorEq,Int.reduceLT,Int.reduceEq]
  refine rK_use (enters_of Tryd.func55 rfl (by decide)) (ACalls.pure_use (rFault_c s hs (foot ⟨16, xa, xb, imm⟩ r) (foot_len _ r) (foot_size _ r)) rfl rfl) ?_
  simp only [go_sem,Nat.reduceAdd,Nat.reduceSub,Nat.reduceEqDiff,Nat.reduceLT,Nat.reduceLeDiff,↓reduceIte,Int.reduceToNat,reduceCtorEq,Int.reduceLT,Int.reduceEq,Flt.cells,hf]
  refine rK_use (enters_of Tryd.func28 rfl (by decide)) (ACalls.pure_use (isAlu_c 16) rfl rfl) ?_
  have ht : Ins.hasT ⟨16, xa, xb, imm⟩ = false := by simp [Ins.hasT, isBr]
  have hfo : foot ⟨16, xa, xb, imm⟩ r = [] := by simp [foot]
  rw [show isAlu 16 = false from rfl]
  simp only [go_sem,Nat.reduceAdd,Nat.reduceSub,Nat.reduceEqDiff,Nat.reduceLT,Nat.reduceLeDiff,↓reduceIte,Int.reduceToNat,reduceCtorEq,Int.reduceLT,Int.reduceEq,Ins.av,Ins.cells,Sp.av,Rg.av,Rg.cells,Eff.cellsD,ha,ha19,hb,hata,hatb,wr0 ha.1 ha.2,trE,Eff.av,Eff.cells]
  refine rK_use (enters_of Tryd.func57 rfl (by decide)) (ACalls.pure_use (rtarget_c _ hx _) rfl rfl) ?_
  rw [ht]
  simp only [go_sem,Nat.reduceAdd,Nat.reduceSub,Nat.reduceEqDiff,Nat.reduceLT,Nat.reduceLeDiff,↓reduceIte,Int.reduceToNat,reduceCtorEq,Int.reduceLT,Int.reduceEq,Ins.av,Ins.cells,Sp.av,Rg.av,Rg.cells,Eff.cellsD,ha,ha19,hb,hata,hatb,wr0 ha.1 ha.2,trE,Eff.av,Eff.cells,hfo,Acc.row,List.length_map,o0,m1,m2,m7,mp,Rg.set]
  refine draw [.qu 0 0, .qu 0 0, .qu 0 0, .qu 0 0, .qu 0 0, .qu 0 0, .qu 0 0, .qu 0 0, .qu 0 0, .qu 0 0, .qu 0 0, .qu 0 0, .qu 0 0, .mn 0] (by kernel_rfl) (by kernel_rfl) ?_
  simp only [go_sem,Nat.reduceAdd,Nat.reduceSub,Nat.reduceEqDiff,Nat.reduceLT,Nat.reduceLeDiff,↓reduceIte,Int.reduceToNat,reduceCtorEq,Int.reduceLT,Int.reduceEq,Ins.av,Ins.cells,Sp.av,Rg.av,Rg.cells,Eff.cellsD,ha,ha19,hb,hata,hatb,wr0 ha.1 ha.2,trE,Eff.av,Eff.cells,hfo,Acc.row,List.length_map,o0,m1,m2,m7,mp,Rg.set]
  exact finN (m1 (o0 ⟨16, xa, xb, imm⟩ r) xa (iw .i64 (r.get xa + imm))) _ (by unfold exec; rw [reff_ok hf]; simp [isAlu, tabR, Res.eff, Pr.setA, Pr.toPc, Pr.p1, Pr.start, Pr.set7, o0, m1, m2, m7, mp, trE]) rfl
theorem rx26_c (x : Ins) (hx : x.ok) (ho : x.op = 26) (s : Sp) (hs : s.ok) (r : Rg) (hr : r.wf) (hf : (ffault s (foot x r)).kind = 0) :
    ACalls Tryd.prog 22 [x.av, s.av, r.av] [] (fun u H => u = .ret (exec x s r).av ∧ H = []) := by
  refine ACalls.up ?_
  refine ACalls.intro (cs := []) (n := 175) Tryd.func22 rfl rfl rfl (by kernel_rfl) rfl ?_
  generalize hpost : (fun (u : Out) (H : Heap) => u = Out.ret (exec x s r).av ∧ H = []) = post
  have fin : ∀ (e : Eff) H, e = exec x s r → Up 0 post (.ret e.av) H := fun e H h => finv (Eff.av_lt e 0) (by rw [← hpost, ← h]; exact ⟨rfl, rfl⟩) H
  have finN : ∀ (e : Eff) H, e = exec x s r → e.data = [] → Up 0 post (.ret (.agg (e.cellsD dnil))) H := fun e H h hd => .le (.ret (.agg (leL_dnil e))) (LeH.refl _) (by have := fin e H h; unfold Eff.av Eff.cells at this; rwa [hd] at this)
  have ha : 0 ≤ x.a ∧ x.a < 8 := ⟨hx.a0, by have := hx.a7; omega⟩
  have hb : 0 ≤ x.b ∧ x.b < 8 := ⟨hx.b0, by have := hx.b7; omega⟩
  have ha19 : x.a.toNat + 1 ≤ 19 := by omega
  have hata := r.at hx.a0 hx.a7
  have hatb := r.at hx.b0 hx.b7
  have hfa := ffault0 hf
  obtain ⟨op, xa, xb, imm⟩ := x
  simp only at ho ha hb ha19 hata hatb
  subst ho
  simp only [go_sem,Nat.reduceAdd,Nat.reduceSub,Nat.reduceEqDiff,Nat.reduceLT,Nat.reduceLeDiff,↓reduceIte,Int.reduceToNat,reduceCtorEq,Int.reduceLT,Int.reduceEq,Ins.av,Ins.cells,Sp.av,Rg.av,Rg.cells]
  refine draw [.qu 0 0, .qu 0 0, .qu 0 0, .qu 0 0, .qu 0 0, .qu 0 0] (by kernel_rfl) (by kernel_rfl) ?_
  simp only [go_sem,Nat.reduceAdd,Nat.reduceSub,Nat.reduceEqDiff,Nat.reduceLT,Nat.reduceLeDiff,↓reduceIte,Int.reduceToNat,reduceCtorEq,Int.reduceLT,Int.reduceEq]
  refine y_call (enters_of Tryd.func35 rfl (by decide)) (fun _ => ACalls.pure_use (rilen_c _ hx) rfl rfl) ?_
  simp only [go_sem,Nat.reduceAdd,Nat.reduceSub,Nat.reduceEqDiff,Nat.reduceLT,Nat.reduceLeDiff,↓reduceIte,Int.reduceToNat,reduceCtorEq,Int.reduceLT,Int.reduceEq]
  refine rK_use (enters_of Tryd.func34 rfl (by decide)) (ACalls.pure_use (rfootprint_c _ hx r hr) rfl rfl) ?_
  simp only [go_sem,Nat.reduceAdd,Nat.reduceSub,Nat.reduceEqDiff,Nat.reduceLT,Nat.reduceLeDiff,↓reduceIte,Int.reduceToNat,reduceCtorEq,Int.reduceLT,Int.reduceEq]
  refine rK_use (enters_of Tryd.func55 rfl (by decide)) (ACalls.pure_use (rFault_c s hs (foot ⟨26, xa, xb, imm⟩ r) (foot_len _ r) (foot_size _ r)) rfl rfl) ?_
  simp only [go_sem,Nat.reduceAdd,Nat.reduceSub,Nat.reduceEqDiff,Nat.reduceLT,Nat.reduceLeDiff,↓reduceIte,Int.reduceToNat,reduceCtorEq,Int.reduceLT,Int.reduceEq,Flt.cells,hf]
  refine rK_use (enters_of Tryd.func28 rfl (by decide)) (ACalls.pure_use (isAlu_c 26) rfl rfl) ?_
  have ht : Ins.hasT ⟨26, xa, xb, imm⟩ = false := by simp [Ins.hasT, isBr]
  have hfo : foot ⟨26, xa, xb, imm⟩ r = [] := by simp [foot]
  rw [show isAlu 26 = false from rfl]
  simp only [go_sem,Nat.reduceAdd,Nat.reduceSub,Nat.reduceEqDiff,Nat.reduceLT,Nat.reduceLeDiff,↓reduceIte,Int.reduceToNat,reduceCtorEq,Int.reduceLT,Int.reduceEq,Ins.av,Ins.cells,Sp.av,Rg.av,Rg.cells,Eff.cellsD,ha,ha19,hb,hata,hatb,wr0 ha.1 ha.2,trE,Eff.av,Eff.cells]
  refine rK_use (enters_of Tryd.func57 rfl (by decide)) (ACalls.pure_use (rtarget_c _ hx _) rfl rfl) ?_
  rw [ht]
  simp only [go_sem,Nat.reduceAdd,Nat.reduceSub,Nat.reduceEqDiff,Nat.reduceLT,Nat.reduceLeDiff,↓reduceIte,Int.reduceToNat,reduceCtorEq,Int.reduceLT,Int.reduceEq,Ins.av,Ins.cells,Sp.av,Rg.av,Rg.cells,Eff.cellsD,ha,ha19,hb,hata,hatb,wr0 ha.1 ha.2,trE,Eff.av,Eff.cells,hfo,Acc.row,List.length_map,o0,m1,m2,m7,mp,Rg.set]
  exact finN (mp (o0 ⟨26, xa, xb, imm⟩ r) (r.get xa)) _ (by unfold exec; rw [reff_ok hf]; simp [isAlu, tabR, Res.eff, Pr.setA, Pr.toPc, Pr.p1, Pr.start, Pr.set7, o0, m1, m2, m7, mp, trE]) rfl
theorem rx33_c (x : Ins) (hx : x.ok) (ho : x.op = 33) (s : Sp) (hs : s.ok) (r : Rg) (hr : r.wf) (hf : (ffault s (foot x r)).kind = 0) :
    ACalls Tryd.prog 22 [x.av, s.av, r.av] [] (fun u H => u = .ret (exec x s r).av ∧ H = []) := by
  refine ACalls.up ?_
  refine ACalls.intro (cs := []) (n := 175) Tryd.func22 rfl rfl rfl (by kernel_rfl) rfl ?_
  generalize hpost : (fun (u : Out) (H : Heap) => u = Out.ret (exec x s r).av ∧ H = []) = post
  have fin : ∀ (e : Eff) H, e = exec x s r → Up 0 post (.ret e.av) H := fun e H h => finv (Eff.av_lt e 0) (by rw [← hpost, ← h]; exact ⟨rfl, rfl⟩) H
  have finN : ∀ (e : Eff) H, e = exec x s r → e.data = [] → Up 0 post (.ret (.agg (e.cellsD dnil))) H := fun e H h hd => .le (.ret (.agg (leL_dnil e))) (LeH.refl _) (by have := fin e H h; unfold Eff.av Eff.cells at this; rwa [hd] at this)
  have ha : 0 ≤ x.a ∧ x.a < 8 := ⟨hx.a0, by have := hx.a7; omega⟩
  have hb : 0 ≤ x.b ∧ x.b < 8 := ⟨hx.b0, by have := hx.b7; omega⟩
  have ha19 : x.a.toNat + 1 ≤ 19 := by omega
  have hata := r.at hx.a0 hx.a7
  have hatb := r.at hx.b0 hx.b7
  have hfa := ffault0 hf
  obtain ⟨op, xa, xb, imm⟩ := x
  simp only at ho ha hb ha19 hata hatb
  subst ho
  simp only [go_sem,Nat.reduceAdd,Nat.reduceSub,Nat.reduceEqDiff,Nat.reduceLT,Nat.reduceLeDiff,↓reduceIte,Int.reduceToNat,reduceCtorEq,Int.reduceLT,Int.reduceEq,Ins.av,Ins.cells,Sp.av,Rg.av,Rg.cells]
  refine draw [.qu 0 0, .qu 0 0, .qu 0 0, .qu 0 0, .qu 0 0, .qu 0 0] (by kernel_rfl) (by kernel_rfl) ?_
  simp only [go_sem,Nat.reduceAdd,Nat.reduceSub,Nat.reduceEqDiff,Nat.reduceLT,Nat.reduceLeDiff,↓reduceIte,Int.reduceToNat,reduceCtorEq,Int.reduceLT,Int.reduceEq]
  refine y_call (enters_of Tryd.func35 rfl (by decide)) (fun _ => ACalls.pure_use (rilen_c _ hx) rfl rfl) ?_
  simp only [go_sem,Nat.reduceAdd,Nat.reduceSub,Nat.reduceEqDiff,Nat.reduceLT,Nat.reduceLeDiff,↓reduceIte,Int.reduceToNat,reduceCtorEq,Int.reduceLT,Int.reduceEq]
  refine rK_use (enters_of Tryd.func34 rfl (by decide)) (ACalls.pure_use (rfootprint_c _ hx r hr) rfl rfl) ?_
  simp only [go_sem,Nat.reduceAdd,Nat.reduceSub,Nat.reduceEqDiff,Nat.reduceLT,Nat.reduceLeDiff,↓reduceIte,Int.reduceToNat,reduceCtorEq,Int.reduceLT,Int.reduceEq]
  refine rK_use (enters_of Tryd.func55 rfl (by decide)) (ACalls.pure_use (rFault_c s hs (foot ⟨33, xa, xb, imm⟩ r) (foot_len _ r) (foot_size _ r)) rfl rfl) ?_
  simp only [go_sem,Nat.reduceAdd,Nat.reduceSub,Nat.reduceEqDiff,Nat.reduceLT,Nat.reduceLeDiff,↓reduceIte,Int.reduceToNat,reduceCtorEq,Int.reduceLT,Int.reduceEq,Flt.cells,hf]
  refine rK_use (enters_of Tryd.func28 rfl (by decide)) (ACalls.pure_use (isAlu_c 33) rfl rfl) ?_
  have ht : Ins.hasT ⟨33, xa, xb, imm⟩ = false := by simp [Ins.hasT, isBr]
  have hfo : foot ⟨33, xa, xb, imm⟩ r = [] := by simp [foot]
  rw [show isAlu 33 = false from rfl]
  simp only [go_sem,Nat.reduceAdd,Nat.reduceSub,Nat.reduceEqDiff,Nat.reduceLT,Nat.reduceLeDiff,↓reduceIte,Int.reduceToNat,reduceCtorEq,Int.reduceLT,Int.reduceEq,Ins.av,Ins.cells,Sp.av,Rg.av,Rg.cells,Eff.cellsD,ha,ha19,hb,hata,hatb,wr0 ha.1 ha.2,trE,Eff.av,Eff.cells]
  refine rK_use (enters_of Tryd.func57 rfl (by decide)) (ACalls.pure_use (rtarget_c _ hx _) rfl rfl) ?_
  rw [ht]
  simp only [go_sem,Nat.reduceAdd,Nat.reduceSub,Nat.reduceEqDiff,Nat.reduceLT,Nat.reduceLeDiff,↓reduceIte,Int.reduceToNat,reduceCtorEq,Int.reduceLT,Int.reduceEq,Ins.av,Ins.cells,Sp.av,Rg.av,Rg.cells,Eff.cellsD,ha,ha19,hb,hata,hatb,wr0 ha.1 ha.2,trE,Eff.av,Eff.cells,hfo,Acc.row,List.length_map,o0,m1,m2,m7,mp,Rg.set]
  exact finN ({ o0 ⟨33, xa, xb, imm⟩ r with trap := ⟨1, imm, ⟨0, 0⟩⟩ }) _ (by unfold exec; rw [reff_ok hf]; simp [isAlu, tabR, Res.eff, Pr.setA, Pr.toPc, Pr.p1, Pr.start, Pr.set7, o0, m1, m2, m7, mp, trE]) rfl
theorem rx76_c (x : Ins) (hx : x.ok) (ho : x.op = 76) (s : Sp) (hs : s.ok) (r : Rg) (hr : r.wf) (hf : (ffault s (foot x r)).kind = 0) :
    ACalls Tryd.prog 22 [x.av, s.av, r.av] [] (fun u H => u = .ret (exec x s r).av ∧ H = []) := by
  refine ACalls.up ?_
  refine ACalls.intro (cs := []) (n := 175) Tryd.func22 rfl rfl rfl (by kernel_rfl) rfl ?_
  generalize hpost : (fun (u : Out) (H : Heap) => u = Out.ret (exec x s r).av ∧ H = []) = post
  have fin : ∀ (e : Eff) H, e = exec x s r → Up 0 post (.ret e.av) H := fun e H h => finv (Eff.av_lt e 0) (by rw [← hpost, ← h]; exact ⟨rfl, rfl⟩) H
  have finN : ∀ (e : Eff) H, e = exec x s r → e.data = [] → Up 0 post (.ret (.agg (e.cellsD dnil))) H := fun e H h hd => .le (.ret (.agg (leL_dnil e))) (LeH.refl _) (by have := fin e H h; unfold Eff.av Eff.cells at this; rwa [hd] at this)
  have ha : 0 ≤ x.a ∧ x.a < 8 := ⟨hx.a0, by have := hx.a7; omega⟩
  have hb : 0 ≤ x.b ∧ x.b < 8 := ⟨hx.b0, by have := hx.b7; omega⟩
  have ha19 : x.a.toNat + 1 ≤ 19 := by omega
  have hata := r.at hx.a0 hx.a7
  have hatb := r.at hx.b0 hx.b7
  have hfa := ffault0 hf
  obtain ⟨op, xa, xb, imm⟩ := x
  simp only at ho ha hb ha19 hata hatb
  subst ho
  simp only [go_sem,Nat.reduceAdd,Nat.reduceSub,Nat.reduceEqDiff,Nat.reduceLT,Nat.reduceLeDiff,↓reduceIte,Int.reduceToNat,reduceCtorEq,Int.reduceLT,Int.reduceEq,Ins.av,Ins.cells,Sp.av,Rg.av,Rg.cells]
  refine draw [.qu 0 0, .qu 0 0, .qu 0 0, .qu 0 0, .qu 0 0, .qu 0 0] (by kernel_rfl) (by kernel_rfl) ?_
  simp only [go_sem,Nat.reduceAdd,Nat.reduceSub,Nat.reduceEqDiff,Nat.reduceLT,Nat.reduceLeDiff,↓reduceIte,Int.reduceToNat,reduceCtorEq,Int.reduceLT,Int.reduceEq]
  refine y_call (enters_of Tryd.func35 rfl (by decide)) (fun _ => ACalls.pure_use (rilen_c _ hx) rfl rfl) ?_
  simp only [go_sem,Nat.reduceAdd,Nat.reduceSub,Nat.reduceEqDiff,Nat.reduceLT,Nat.reduceLeDiff,↓reduceIte,Int.reduceToNat,reduceCtorEq,Int.reduceLT,Int.reduceEq]
  refine rK_use (enters_of Tryd.func34 rfl (by decide)) (ACalls.pure_use (rfootprint_c _ hx r hr) rfl rfl) ?_
  simp only [go_sem,Nat.reduceAdd,Nat.reduceSub,Nat.reduceEqDiff,Nat.reduceLT,Nat.reduceLeDiff,↓reduceIte,Int.reduceToNat,reduceCtorEq,Int.reduceLT,Int.reduceEq]
  refine rK_use (enters_of Tryd.func55 rfl (by decide)) (ACalls.pure_use (rFault_c s hs (foot ⟨76, xa, xb, imm⟩ r) (foot_len _ r) (foot_size _ r)) rfl rfl) ?_
  simp only [go_sem,Nat.reduceAdd,Nat.reduceSub,Nat.reduceEqDiff,Nat.reduceLT,Nat.reduceLeDiff,↓reduceIte,Int.reduceToNat,reduceCtorEq,Int.reduceLT,Int.reduceEq,Flt.cells,hf]
  refine rK_use (enters_of Tryd.func28 rfl (by decide)) (ACalls.pure_use (isAlu_c 76) rfl rfl) ?_
  have ht : Ins.hasT ⟨76, xa, xb, imm⟩ = false := by simp [Ins.hasT, isBr]
  have hfo : foot ⟨76, xa, xb, imm⟩ r = [] := by simp [foot]
  rw [show isAlu 76 = false from rfl]
  simp only [go_sem,Nat.reduceAdd,Nat.reduceSub,Nat.reduceEqDiff,Nat.reduceLT,Nat.reduceLeDiff,↓reduceIte,Int.reduceToNat,reduceCtorEq,Int.reduceLT,Int.reduceEq,Ins.av,Ins.cells,Sp.av,Rg.av,Rg.cells,Eff.cellsD,ha,ha19,hb,hata,hatb,wr0 ha.1 ha.2,trE,Eff.av,Eff.cells]
  refine rK_use (enters_of Tryd.func57 rfl (by decide)) (ACalls.pure_use (rtarget_c _ hx _) rfl rfl) ?_
  rw [ht]
  simp only [go_sem,Nat.reduceAdd,Nat.reduceSub,Nat.reduceEqDiff,Nat.reduceLT,Nat.reduceLeDiff,↓reduceIte,Int.reduceToNat,reduceCtorEq,Int.reduceLT,Int.reduceEq,Ins.av,Ins.cells,Sp.av,Rg.av,Rg.cells,Eff.cellsD,ha,ha19,hb,hata,hatb,wr0 ha.1 ha.2,trE,Eff.av,Eff.cells]
  refine rK_use (enters_of Tryd.func56 rfl (by decide)) (ACalls.pure_use (trapped_c ⟨76, xa, xb, imm⟩ r ⟨2, 0, ⟨0, 0⟩⟩) rfl (by simp [AV.lt, ltL, Eff.av_lt])) ?_
  simp only [go_sem,Nat.reduceAdd,Nat.reduceSub,Nat.reduceEqDiff,Nat.reduceLT,Nat.reduceLeDiff,↓reduceIte,Int.reduceToNat,reduceCtorEq,Int.reduceLT,Int.reduceEq,Ins.av,Ins.cells,Sp.av,Rg.av,Rg.cells,Eff.cellsD,ha,ha19,hb,hata,hatb,wr0 ha.1 ha.2,trE,Eff.av,Eff.cells]
  exact fin (trE ⟨76, xa, xb, imm⟩ r ⟨2, 0, ⟨0, 0⟩⟩) _ (by unfold exec; rw [reff_ok hf]; simp [isAlu, tabR, Res.eff, Pr.setA, Pr.toPc, Pr.p1, Pr.start, Pr.set7, o0, m1, m2, m7, mp, trE])
theorem rx32_c (x : Ins) (hx : x.ok) (ho : x.op = 32) (s : Sp) (hs : s.ok) (r : Rg) (hr : r.wf) (hf : (ffault s (foot x r)).kind = 0) :
    ACalls Tryd.prog 22 [x.av, s.av, r.av] [] (fun u H => u = .ret (exec x s r).av ∧ H = []) := by
  refine ACalls.up ?_
  refine ACalls.intro (cs := []) (n := 175) Tryd.func22 rfl rfl rfl (by kernel_rfl) rfl ?_
  generalize hpost : (fun (u : Out) (H : Heap) => u = Out.ret (exec x s r).av ∧ H = []) = post
  have fin : ∀ (e : Eff) H, e = exec x s r → Up 0 post (.ret e.av) H := fun e H h => finv (Eff.av_lt e 0) (by rw [← hpost, ← h]; exact ⟨rfl, rfl⟩) H
  have finN : ∀ (e : Eff) H, e = exec x s r → e.data = [] → Up 0 post (.ret (.agg (e.cellsD dnil))) H := fun e H h hd => .le (.ret (.agg (leL_dnil e))) (LeH.refl _) (by have := fin e H h; unfold Eff.av Eff.cells at this; rwa [hd] at this)
  have ha : 0 ≤ x.a ∧ x.a < 8 := ⟨hx.a0, by have := hx.a7; omega⟩
  have hb : 0 ≤ x.b ∧ x.b < 8 := ⟨hx.b0, by have := hx.b7; omega⟩
  have ha19 : x.a.toNat + 1 ≤ 19 := by omega
  have hata := r.at hx.a0 hx.a7
  have hatb := r.at hx.b0 hx.b7
  have hfa := ffault0 hf
  obtain ⟨op, xa, xb, imm⟩ := x
  simp only at ho ha hb ha19 hata hatb
  subst ho
  simp only [go_sem,Nat.reduceAdd,Nat.reduceSub,Nat.reduceEqDiff,Nat.reduceLT,Nat.reduceLeDiff,↓reduceIte,Int.reduceToNat,reduceCtorEq,Int.reduceLT,Int.reduceEq,Ins.av,Ins.cells,Sp.av,Rg.av,Rg.cells]
  refine draw [.qu 0 0, .qu 0 0, .qu 0 0, .qu 0 0, .qu 0 0, .qu 0 0] (by kernel_rfl) (by kernel_rfl) ?_
  simp only [go_sem,Nat.reduceAdd,Nat.reduceSub,Nat.reduceEqDiff,Nat.reduceLT,Nat.reduceLeDiff,↓reduceIte,Int.reduceToNat,reduceCtorEq,Int.reduceLT,Int.reduceEq]
  refine y_call (enters_of Tryd.func35 rfl (by decide)) (fun _ => ACalls.pure_use (rilen_c _ hx) rfl rfl) ?_
  simp only [go_sem,Nat.reduceAdd,Nat.reduceSub,Nat.reduceEqDiff,Nat.reduceLT,Nat.reduceLeDiff,↓reduceIte,Int.reduceToNat,reduceCtorEq,Int.reduceLT,Int.reduceEq]
  refine rK_use (enters_of Tryd.func34 rfl (by decide)) (ACalls.pure_use (rfootprint_c _ hx r hr) rfl rfl) ?_
  simp only [go_sem,Nat.reduceAdd,Nat.reduceSub,Nat.reduceEqDiff,Nat.reduceLT,Nat.reduceLeDiff,↓reduceIte,Int.reduceToNat,reduceCtorEq,Int.reduceLT,Int.reduceEq]
  refine rK_use (enters_of Tryd.func55 rfl (by decide)) (ACalls.pure_use (rFault_c s hs (foot ⟨32, xa, xb, imm⟩ r) (foot_len _ r) (foot_size _ r)) rfl rfl) ?_
  simp only [go_sem,Nat.reduceAdd,Nat.reduceSub,Nat.reduceEqDiff,Nat.reduceLT,Nat.reduceLeDiff,↓reduceIte,Int.reduceToNat,reduceCtorEq,Int.reduceLT,Int.reduceEq,Flt.cells,hf]
  refine rK_use (enters_of Tryd.func28 rfl (by decide)) (ACalls.pure_use (isAlu_c 32) rfl rfl) ?_
  have ht : Ins.hasT ⟨32, xa, xb, imm⟩ = true := by simp [Ins.hasT, isBr, hx]
  have hg : Ins.tgt ⟨32, xa, xb, imm⟩ (iw .i64 (r.pc + (Ins.len ⟨32, xa, xb, imm⟩ : Nat))) = iw .i64 ((iw .i64 (r.pc + (Ins.len ⟨32, xa, xb, imm⟩ : Nat))) + imm) := by rw [Ins.tgt, if_pos ⟨hx, rfl⟩]
  have hfo : foot ⟨32, xa, xb, imm⟩ r = [] := by simp [foot]
  rw [show isAlu 32 = false from rfl]
  simp only [go_sem,Nat.reduceAdd,Nat.reduceSub,Nat.reduceEqDiff,Nat.reduceLT,Nat.reduceLeDiff,↓reduceIte,Int.reduceToNat,reduceCtorEq,Int.reduceLT,Int.reduceEq,Ins.av,Ins.cells,Sp.av,Rg.av,Rg.cells,Eff.cellsD,ha,ha19,hb,hata,hatb,wr0 ha.1 ha.2,trE,Eff.av,Eff.cells]
  refine rK_use (enters_of Tryd.func57 rfl (by decide)) (ACalls.pure_use (rtarget_c _ hx _) rfl rfl) ?_
  rw [ht]
  rw [hg]
  simp only [go_sem,Nat.reduceAdd,Nat.reduceSub,Nat.reduceEqDiff,Nat.reduceLT,Nat.reduceLeDiff,↓reduceIte,Int.reduceToNat,reduceCtorEq,Int.reduceLT,Int.reduceEq,Ins.av,Ins.cells,Sp.av,Rg.av,Rg.cells,Eff.cellsD,ha,ha19,hb,hata,hatb,wr0 ha.1 ha.2,trE,Eff.av,Eff.cells]
  refine rK_use (enters_of Tryd.func36 rfl (by decide)) (ACalls.pure_use (holds_c _ hx r) rfl rfl) ?_
  rw [show taken ⟨32, xa, xb, imm⟩ r = false by simp [taken]]
  simp only [go_sem,Nat.reduceAdd,Nat.reduceSub,Nat.reduceEqDiff,Nat.reduceLT,Nat.reduceLeDiff,↓reduceIte,Int.reduceToNat,reduceCtorEq,Int.reduceLT,Int.reduceEq,Ins.av,Ins.cells,Sp.av,Rg.av,Rg.cells,Eff.cellsD,ha,ha19,hb,hata,hatb,wr0 ha.1 ha.2,trE,Eff.av,Eff.cells,hfo,Acc.row,List.length_map,o0,m1,m2,m7,mp,Rg.set]
  exact finN (m1 (o0 ⟨32, xa, xb, imm⟩ r) xa (iw .i64 ((iw .i64 (r.pc + (Ins.len ⟨32, xa, xb, imm⟩ : Nat))) + imm))) _ (by unfold exec; rw [reff_ok hf]; simp [isAlu, tabR, Res.eff, Pr.setA, Pr.toPc, Pr.p1, Pr.start, Pr.set7, o0, m1, m2, m7, mp, trE]) rfl
theorem rx21_c (x : Ins) (hx : x.ok) (ho : x.op = 21) (s : Sp) (hs : s.ok) (r : Rg) (hr : r.wf) (hf : (ffault s (foot x r)).kind = 0) :
    ACalls Tryd.prog 22 [x.av, s.av, r.av] [] (fun u H => u = .ret (exec x s r).av ∧ H = []) := by
  refine ACalls.up ?_
  refine ACalls.intro (cs := []) (n := 175) Tryd.func22 rfl rfl rfl (by kernel_rfl) rfl ?_
  generalize hpost : (fun (u : Out) (H : Heap) => u = Out.ret (exec x s r).av ∧ H = []) = post
  have fin : ∀ (e : Eff) H, e = exec x s r → Up 0 post (.ret e.av) H := fun e H h => finv (Eff.av_lt e 0) (by rw [← hpost, ← h]; exact ⟨rfl, rfl⟩) H
  have finN : ∀ (e : Eff) H, e = exec x s r → e.data = [] → Up 0 post (.ret (.agg (e.cellsD dnil))) H := fun e H h hd => .le (.ret (.agg (leL_dnil e))) (LeH.refl _) (by have := fin e H h; unfold Eff.av Eff.cells at this; rwa [hd] at this)
  have ha : 0 ≤ x.a ∧ x.a < 8 := ⟨hx.a0, by have := hx.a7; omega⟩
  have hb : 0 ≤ x.b ∧ x.b < 8 := ⟨hx.b0, by have := hx.b7; omega⟩
  have ha19 : x.a.toNat + 1 ≤ 19 := by omega
  have hata := r.at hx.a0 hx.a7
  have hatb := r.at hx.b0 hx.b7
  have hfa := ffault0 hf
  obtain ⟨op, xa, xb, imm⟩ := x
  simp only at ho ha hb ha19 hata hatb
  subst ho
  simp only [go_sem,Nat.reduceAdd,Nat.reduceSub,Nat.reduceEqDiff,Nat.reduceLT,Nat.reduceLeDiff,↓reduceIte,Int.reduceToNat,reduceCtorEq,Int.reduceLT,Int.reduceEq,Ins.av,Ins.cells,Sp.av,Rg.av,Rg.cells]
  refine draw [.qu 0 0, .qu 0 0, .qu 0 0, .qu 0 0, .qu 0 0, .qu 0 0] (by kernel_rfl) (by kernel_rfl) ?_
  simp only [go_sem,Nat.reduceAdd,Nat.reduceSub,Nat.reduceEqDiff,Nat.reduceLT,Nat.reduceLeDiff,↓reduceIte,Int.reduceToNat,reduceCtorEq,Int.reduceLT,Int.reduceEq]
  refine y_call (enters_of Tryd.func35 rfl (by decide)) (fun _ => ACalls.pure_use (rilen_c _ hx) rfl rfl) ?_
  simp only [go_sem,Nat.reduceAdd,Nat.reduceSub,Nat.reduceEqDiff,Nat.reduceLT,Nat.reduceLeDiff,↓reduceIte,Int.reduceToNat,reduceCtorEq,Int.reduceLT,Int.reduceEq]
  refine rK_use (enters_of Tryd.func34 rfl (by decide)) (ACalls.pure_use (rfootprint_c _ hx r hr) rfl rfl) ?_
  simp only [go_sem,Nat.reduceAdd,Nat.reduceSub,Nat.reduceEqDiff,Nat.reduceLT,Nat.reduceLeDiff,↓reduceIte,Int.reduceToNat,reduceCtorEq,Int.reduceLT,Int.reduceEq]
  refine rK_use (enters_of Tryd.func55 rfl (by decide)) (ACalls.pure_use (rFault_c s hs (foot ⟨21, xa, xb, imm⟩ r) (foot_len _ r) (foot_size _ r)) rfl rfl) ?_
  simp only [go_sem,Nat.reduceAdd,Nat.reduceSub,Nat.reduceEqDiff,Nat.reduceLT,Nat.reduceLeDiff,↓reduceIte,Int.reduceToNat,reduceCtorEq,Int.reduceLT,Int.reduceEq,Flt.cells,hf]
  refine rK_use (enters_of Tryd.func28 rfl (by decide)) (ACalls.pure_use (isAlu_c 21) rfl rfl) ?_
  have ht : Ins.hasT ⟨21, xa, xb, imm⟩ = true := by simp [Ins.hasT, isBr, hx]
  have hg : Ins.tgt ⟨21, xa, xb, imm⟩ (iw .i64 (r.pc + (Ins.len ⟨21, xa, xb, imm⟩ : Nat))) = iw .i64 ((iw .i64 (r.pc + (Ins.len ⟨21, xa, xb, imm⟩ : Nat))) + imm) := by rw [Ins.tgt, if_pos ⟨hx, rfl⟩]
  have hfo : foot ⟨21, xa, xb, imm⟩ r = [] := by simp [foot]
  rw [show isAlu 21 = false from rfl]
  simp only [go_sem,Nat.reduceAdd,Nat.reduceSub,Nat.reduceEqDiff,Nat.reduceLT,Nat.reduceLeDiff,↓reduceIte,Int.reduceToNat,reduceCtorEq,Int.reduceLT,Int.reduceEq,Ins.av,Ins.cells,Sp.av,Rg.av,Rg.cells,Eff.cellsD,ha,ha19,hb,hata,hatb,wr0 ha.1 ha.2,trE,Eff.av,Eff.cells]
  refine rK_use (enters_of Tryd.func57 rfl (by decide)) (ACalls.pure_use (rtarget_c _ hx _) rfl rfl) ?_
  rw [ht]
  rw [hg]
  simp only [go_sem,Nat.reduceAdd,Nat.reduceSub,Nat.reduceEqDiff,Nat.reduceLT,Nat.reduceLeDiff,↓reduceIte,Int.reduceToNat,reduceCtorEq,Int.reduceLT,Int.reduceEq,Ins.av,Ins.cells,Sp.av,Rg.av,Rg.cells,Eff.cellsD,ha,ha19,hb,hata,hatb,wr0 ha.1 ha.2,trE,Eff.av,Eff.cells]
  refine rK_use (enters_of Tryd.func36 rfl (by decide)) (ACalls.pure_use (holds_c _ hx r) rfl rfl) ?_
  cases htk : taken ⟨21, xa, xb, imm⟩ r with
  | true =>
    simp only [go_sem,Nat.reduceAdd,Nat.reduceSub,Nat.reduceEqDiff,Nat.reduceLT,Nat.reduceLeDiff,↓reduceIte,Int.reduceToNat,reduceCtorEq,Int.reduceLT,Int.reduceEq,Ins.av,Ins.cells,Sp.av,Rg.av,Rg.cells,Eff.cellsD,ha,ha19,hb,hata,hatb,wr0 ha.1 ha.2,trE,Eff.av,Eff.cells,hfo,Acc.row,List.length_map,o0,m1,m2,m7,mp,Rg.set]
    exact finN (mp (o0 ⟨21, xa, xb, imm⟩ r) (iw .i64 ((iw .i64 (r.pc + (Ins.len ⟨21, xa, xb, imm⟩ : Nat))) + imm))) _ (by unfold exec; rw [reff_ok hf]; simp [isAlu, tabR, Res.eff, Pr.setA, Pr.toPc, Pr.p1, Pr.start, Pr.set7, o0, m1, m2, m7, mp, trE, htk]) rfl
  | false =>
    simp only [go_sem,Nat.reduceAdd,Nat.reduceSub,Nat.reduceEqDiff,Nat.reduceLT,Nat.reduceLeDiff,↓reduceIte,Int.reduceToNat,reduceCtorEq,Int.reduceLT,Int.reduceEq,Ins.av,Ins.cells,Sp.av,Rg.av,Rg.cells,Eff.cellsD,ha,ha19,hb,hata,hatb,wr0 ha.1 ha.2,trE,Eff.av,Eff.cells,hfo,Acc.row,List.length_map,o0,m1,m2,m7,mp,Rg.set]
    exact finN (o0 ⟨21, xa, xb, imm⟩ r) _ (by unfold exec; rw [reff_ok hf]; simp [isAlu, tabR, Res.eff, Pr.setA, Pr.toPc, Pr.p1, Pr.start, Pr.set7, o0, m1, m2, m7, mp, trE, htk]) rfl
theorem rx22_c (x : Ins) (hx : x.ok) (ho : x.op = 22) (s : Sp) (hs : s.ok) (r : Rg) (hr : r.wf) (hf : (ffault s (foot x r)).kind = 0) :
    ACalls Tryd.prog 22 [x.av, s.av, r.av] [] (fun u H => u = .ret (exec x s r).av ∧ H = []) := by
  refine ACalls.up ?_
  refine ACalls.intro (cs := []) (n := 175) Tryd.func22 rfl rfl rfl (by kernel_rfl) rfl ?_
  generalize hpost : (fun (u : Out) (H : Heap) => u = Out.ret (exec x s r).av ∧ H = []) = post
  have fin : ∀ (e : Eff) H, e = exec x s r → Up 0 post (.ret e.av) H := fun e H h => finv (Eff.av_lt e 0) (by rw [← hpost, ← h]; exact ⟨rfl, rfl⟩) H
  have finN : ∀ (e : Eff) H, e = exec x s r → e.data = [] → Up 0 post (.ret (.agg (e.cellsD dnil))) H := fun e H h hd => .le (.ret (.agg (leL_dnil e))) (LeH.refl _) (by have := fin e H h; unfold Eff.av Eff.cells at this; rwa [hd] at this)
  have ha : 0 ≤ x.a ∧ x.a < 8 := ⟨hx.a0, by have := hx.a7; omega⟩
  have hb : 0 ≤ x.b ∧ x.b < 8 := ⟨hx.b0, by have := hx.b7; omega⟩
  have ha19 : x.a.toNat + 1 ≤ 19 := by omega
  have hata := r.at hx.a0 hx.a7
  have hatb := r.at hx.b0 hx.b7
  have hfa := ffault0 hf
  obtain ⟨op, xa, xb, imm⟩ := x
  simp only at ho ha hb ha19 hata hatb
  subst ho
  simp only [go_sem,Nat.reduceAdd,Nat.reduceSub,Nat.reduceEqDiff,Nat.reduceLT,Nat.reduceLeDiff,↓reduceIte,Int.reduceToNat,reduceCtorEq,Int.reduceLT,Int.reduceEq,Ins.av,Ins.cells,Sp.av,Rg.av,Rg.cells]
  refine draw [.qu 0 0, .qu 0 0, .qu 0 0, .qu 0 0, .qu 0 0, .qu 0 0] (by kernel_rfl) (by kernel_rfl) ?_
  simp only [go_sem,Nat.reduceAdd,Nat.reduceSub,Nat.reduceEqDiff,Nat.reduceLT,Nat.reduceLeDiff,↓reduceIte,Int.reduceToNat,reduceCtorEq,Int.reduceLT,Int.reduceEq]
  refine y_call (enters_of Tryd.func35 rfl (by decide)) (fun _ => ACalls.pure_use (rilen_c _ hx) rfl rfl) ?_
  simp only [go_sem,Nat.reduceAdd,Nat.reduceSub,Nat.reduceEqDiff,Nat.reduceLT,Nat.reduceLeDiff,↓reduceIte,Int.reduceToNat,reduceCtorEq,Int.reduceLT,Int.reduceEq]
  refine rK_use (enters_of Tryd.func34 rfl (by decide)) (ACalls.pure_use (rfootprint_c _ hx r hr) rfl rfl) ?_
  simp only [go_sem,Nat.reduceAdd,Nat.reduceSub,Nat.reduceEqDiff,Nat.reduceLT,Nat.reduceLeDiff,↓reduceIte,Int.reduceToNat,reduceCtorEq,Int.reduceLT,Int.reduceEq]
  refine rK_use (enters_of Tryd.func55 rfl (by decide)) (ACalls.pure_use (rFault_c s hs (foot ⟨22, xa, xb, imm⟩ r) (foot_len _ r) (foot_size _ r)) rfl rfl) ?_
  simp only [go_sem,Nat.reduceAdd,Nat.reduceSub,Nat.reduceEqDiff,Nat.reduceLT,Nat.reduceLeDiff,↓reduceIte,Int.reduceToNat,reduceCtorEq,Int.reduceLT,Int.reduceEq,Flt.cells,hf]
  refine rK_use (enters_of Tryd.func28 rfl (by decide)) (ACalls.pure_use (isAlu_c 22) rfl rfl) ?_
  have ht : Ins.hasT ⟨22, xa, xb, imm⟩ = true := by simp [Ins.hasT, isBr, hx]
  have hg : Ins.tgt ⟨22, xa, xb, imm⟩ (iw .i64 (r.pc + (Ins.len ⟨22, xa, xb, imm⟩ : Nat))) = iw .i64 ((iw .i64 (r.pc + (Ins.len ⟨22, xa, xb, imm⟩ : Nat))) + imm) := by rw [Ins.tgt, if_pos ⟨hx, rfl⟩]
  have hfo : foot ⟨22, xa, xb, imm⟩ r = [] := by simp [foot]
  rw [show isAlu 22 = false from rfl]
  simp only [go_sem,Nat.reduceAdd,Nat.reduceSub,Nat.reduceEqDiff,Nat.reduceLT,Nat.reduceLeDiff,↓reduceIte,Int.reduceToNat,reduceCtorEq,Int.reduceLT,Int.reduceEq,Ins.av,Ins.cells,Sp.av,Rg.av,Rg.cells,Eff.cellsD,ha,ha19,hb,hata,hatb,wr0 ha.1 ha.2,trE,Eff.av,Eff.cells]
  refine rK_use (enters_of Tryd.func57 rfl (by decide)) (ACalls.pure_use (rtarget_c _ hx _) rfl rfl) ?_
  rw [ht]
  rw [hg]
  simp only [go_sem,Nat.reduceAdd,Nat.reduceSub,Nat.reduceEqDiff,Nat.reduceLT,Nat.reduceLeDiff,↓reduceIte,Int.reduceToNat,reduceCtorEq,Int.reduceLT,Int.reduceEq,Ins.av,Ins.cells,Sp.av,Rg.av,Rg.cells,Eff.cellsD,ha,ha19,hb,hata,hatb,wr0 ha.1 ha.2,trE,Eff.av,Eff.cells]
  refine rK_use (enters_of Tryd.func36 rfl (by decide)) (ACalls.pure_use (holds_c _ hx r) rfl rfl) ?_
  cases htk : taken ⟨22, xa, xb, imm⟩ r with
  | true =>
    simp only [go_sem,Nat.reduceAdd,Nat.reduceSub,Nat.reduceEqDiff,Nat.reduceLT,Nat.reduceLeDiff,↓reduceIte,Int.reduceToNat,reduceCtorEq,Int.reduceLT,Int.reduceEq,Ins.av,Ins.cells,Sp.av,Rg.av,Rg.cells,Eff.cellsD,ha,ha19,hb,hata,hatb,wr0 ha.1 ha.2,trE,Eff.av,Eff.cells,hfo,Acc.row,List.length_map,o0,m1,m2,m7,mp,Rg.set]
    exact finN (mp (o0 ⟨22, xa, xb, imm⟩ r) (iw .i64 ((iw .i64 (r.pc + (Ins.len ⟨22, xa, xb, imm⟩ : Nat))) + imm))) _ (by unfold exec; rw [reff_ok hf]; simp [isAlu, tabR, Res.eff, Pr.setA, Pr.toPc, Pr.p1, Pr.start, Pr.set7, o0, m1, m2, m7, mp, trE, htk]) rfl
  | false =>
    simp only [go_sem,Nat.reduceAdd,Nat.reduceSub,Nat.reduceEqDiff,Nat.reduceLT,Nat.reduceLeDiff,↓reduceIte,Int.reduceToNat,reduceCtorEq,Int.reduceLT,Int.reduceEq,Ins.av,Ins.cells,Sp.av,Rg.av,Rg.cells,Eff.cellsD,ha,ha19,hb,hata,hatb,wr0 ha.1 ha.2,trE,Eff.av,Eff.cells,hfo,Acc.row,List.length_map,o0,m1,m2,m7,mp,Rg.set]
    exact finN (o0 ⟨22, xa, xb, imm⟩ r) _ (by unfold exec; rw [reff_ok hf]; simp [isAlu, tabR, Res.eff, Pr.setA, Pr.toPc, Pr.p1, Pr.start, Pr.set7, o0, m1, m2, m7, mp, trE, htk]) rfl
theorem rx23_c (x : Ins) (hx : x.ok) (ho : x.op = 23) (s : Sp) (hs : s.ok) (r : Rg) (hr : r.wf) (hf : (ffault s (foot x r)).kind = 0) :
    ACalls Tryd.prog 22 [x.av, s.av, r.av] [] (fun u H => u = .ret (exec x s r).av ∧ H = []) := by
  refine ACalls.up ?_
  refine ACalls.intro (cs := []) (n := 175) Tryd.func22 rfl rfl rfl (by kernel_rfl) rfl ?_
  generalize hpost : (fun (u : Out) (H : Heap) => u = Out.ret (exec x s r).av ∧ H = []) = post
  have fin : ∀ (e : Eff) H, e = exec x s r → Up 0 post (.ret e.av) H := fun e H h => finv (Eff.av_lt e 0) (by rw [← hpost, ← h]; exact ⟨rfl, rfl⟩) H
  have finN : ∀ (e : Eff) H, e = exec x s r → e.data = [] → Up 0 post (.ret (.agg (e.cellsD dnil))) H := fun e H h hd => .le (.ret (.agg (leL_dnil e))) (LeH.refl _) (by have := fin e H h; unfold Eff.av Eff.cells at this; rwa [hd] at this)
  have ha : 0 ≤ x.a ∧ x.a < 8 := ⟨hx.a0, by have := hx.a7; omega⟩
  have hb : 0 ≤ x.b ∧ x.b < 8 := ⟨hx.b0, by have := hx.b7; omega⟩
  have ha19 : x.a.toNat + 1 ≤ 19 := by omega
  have hata := r.at hx.a0 hx.a7
  have hatb := r.at hx.b0 hx.b7
  have hfa := ffault0 hf
  obtain ⟨op, xa, xb, imm⟩ := x
  simp only at ho ha hb ha19 hata hatb
  subst ho
  simp only [go_sem,Nat.reduceAdd,Nat.reduceSub,Nat.reduceEqDiff,Nat.reduceLT,Nat.reduceLeDiff,↓reduceIte,Int.reduceToNat,reduceCtorEq,Int.reduceLT,Int.reduceEq,Ins.av,Ins.cells,Sp.av,Rg.av,Rg.cells]
  refine draw [.qu 0 0, .qu 0 0, .qu 0 0, .qu 0 0, .qu 0 0, .qu 0 0] (by kernel_rfl) (by kernel_rfl) ?_
  simp only [go_sem,Nat.reduceAdd,Nat.reduceSub,Nat.reduceEqDiff,Nat.reduceLT,Nat.reduceLeDiff,↓reduceIte,Int.reduceToNat,reduceCtorEq,Int.reduceLT,Int.reduceEq]
  refine y_call (enters_of Tryd.func35 rfl (by decide)) (fun _ => ACalls.pure_use (rilen_c _ hx) rfl rfl) ?_
  simp only [go_sem,Nat.reduceAdd,Nat.reduceSub,Nat.reduceEqDiff,Nat.reduceLT,Nat.reduceLeDiff,↓reduceIte,Int.reduceToNat,reduceCtorEq,Int.reduceLT,Int.reduceEq]
  refine rK_use (enters_of Tryd.func34 rfl (by decide)) (ACalls.pure_use (rfootprint_c _ hx r hr) rfl rfl) ?_
  simp only [go_sem,Nat.reduceAdd,Nat.reduceSub,Nat.reduceEqDiff,Nat.reduceLT,Nat.reduceLeDiff,↓reduceIte,Int.reduceToNat,reduceCtorEq,Int.reduceLT,Int.reduceEq]
  refine rK_use (enters_of Tryd.func55 rfl (by decide)) (ACalls.pure_use (rFault_c s hs (foot ⟨23, xa, xb, imm⟩ r) (foot_len _ r) (foot_size _ r)) rfl rfl) ?_
  simp only [go_sem,Nat.reduceAdd,Nat.reduceSub,Nat.reduceEqDiff,Nat.reduceLT,Nat.reduceLeDiff,↓reduceIte,Int.reduceToNat,reduceCtorEq,Int.reduceLT,Int.reduceEq,Flt.cells,hf]
  refine rK_use (enters_of Tryd.func28 rfl (by decide)) (ACalls.pure_use (isAlu_c 23) rfl rfl) ?_
  have ht : Ins.hasT ⟨23, xa, xb, imm⟩ = true := by simp [Ins.hasT, isBr, hx]
  have hg : Ins.tgt ⟨23, xa, xb, imm⟩ (iw .i64 (r.pc + (Ins.len ⟨23, xa, xb, imm⟩ : Nat))) = iw .i64 ((iw .i64 (r.pc + (Ins.len ⟨23, xa, xb, imm⟩ : Nat))) + imm) := by rw [Ins.tgt, if_pos ⟨hx, rfl⟩]
  have hfo : foot ⟨23, xa, xb, imm⟩ r = [] := by simp [foot]
  rw [show isAlu 23 = false from rfl]
  simp only [go_sem,Nat.reduceAdd,Nat.reduceSub,Nat.reduceEqDiff,Nat.reduceLT,Nat.reduceLeDiff,↓reduceIte,Int.reduceToNat,reduceCtorEq,Int.reduceLT,Int.reduceEq,Ins.av,Ins.cells,Sp.av,Rg.av,Rg.cells,Eff.cellsD,ha,ha19,hb,hata,hatb,wr0 ha.1 ha.2,trE,Eff.av,Eff.cells]
  refine rK_use (enters_of Tryd.func57 rfl (by decide)) (ACalls.pure_use (rtarget_c _ hx _) rfl rfl) ?_
  rw [ht]
  rw [hg]
  simp only [go_sem,Nat.reduceAdd,Nat.reduceSub,Nat.reduceEqDiff,Nat.reduceLT,Nat.reduceLeDiff,↓reduceIte,Int.reduceToNat,reduceCtorEq,Int.reduceLT,Int.reduceEq,Ins.av,Ins.cells,Sp.av,Rg.av,Rg.cells,Eff.cellsD,ha,ha19,hb,hata,hatb,wr0 ha.1 ha.2,trE,Eff.av,Eff.cells]
  refine rK_use (enters_of Tryd.func36 rfl (by decide)) (ACalls.pure_use (holds_c _ hx r) rfl rfl) ?_
  cases htk : taken ⟨23, xa, xb, imm⟩ r with
  | true =>
    simp only [go_sem,Nat.reduceAdd,Nat.reduceSub,Nat.reduceEqDiff,Nat.reduceLT,Nat.reduceLeDiff,↓reduceIte,Int.reduceToNat,reduceCtorEq,Int.reduceLT,Int.reduceEq,Ins.av,Ins.cells,Sp.av,Rg.av,Rg.cells,Eff.cellsD,ha,ha19,hb,hata,hatb,wr0 ha.1 ha.2,trE,Eff.av,Eff.cells,hfo,Acc.row,List.length_map,o0,m1,m2,m7,mp,Rg.set]
    exact finN (mp (o0 ⟨23, xa, xb, imm⟩ r) (iw .i64 ((iw .i64 (r.pc + (Ins.len ⟨23, xa, xb, imm⟩ : Nat))) + imm))) _ (by unfold exec; rw [reff_ok hf]; simp [isAlu, tabR, Res.eff, Pr.setA, Pr.toPc, Pr.p1, Pr.start, Pr.set7, o0, m1, m2, m7, mp, trE, htk]) rfl
  | false =>
    simp only [go_sem,Nat.reduceAdd,Nat.reduceSub,Nat.reduceEqDiff,Nat.reduceLT,Nat.reduceLeDiff,↓reduceIte,Int.reduceToNat,reduceCtorEq,Int.reduceLT,Int.reduceEq,Ins.av,Ins.cells,Sp.av,Rg.av,Rg.cells,Eff.cellsD,ha,ha19,hb,hata,hatb,wr0 ha.1 ha.2,trE,Eff.av,Eff.cells,hfo,Acc.row,List.length_map,o0,m1,m2,m7,mp,Rg.set]
    exact finN (o0 ⟨23, xa, xb, imm⟩ r) _ (by unfold exec; rw [reff_ok hf]; simp [isAlu, tabR, Res.eff, Pr.setA, Pr.toPc, Pr.p1, Pr.start, Pr.set7, o0, m1, m2, m7, mp, trE, htk]) rfl
theorem rx24_c (x : Ins) (hx : x.ok) (ho : x.op = 24) (s : Sp) (hs : s.ok) (r : Rg) (hr : r.wf) (hf : (ffault s (foot x r)).kind = 0) :
    ACalls Tryd.prog 22 [x.av, s.av, r.av] [] (fun u H => u = .ret (exec x s r).av ∧ H = []) := by
  refine ACalls.up ?_
  refine ACalls.intro (cs := []) (n := 175) Tryd.func22 rfl rfl rfl (by kernel_rfl) rfl ?_
  generalize hpost : (fun (u : Out) (H : Heap) => u = Out.ret (exec x s r).av ∧ H = []) = post
  have fin : ∀ (e : Eff) H, e = exec x s r → Up 0 post (.ret e.av) H := fun e H h => finv (Eff.av_lt e 0) (by rw [← hpost, ← h]; exact ⟨rfl, rfl⟩) H
  have finN : ∀ (e : Eff) H, e = exec x s r → e.data = [] → Up 0 post (.ret (.agg (e.cellsD dnil))) H := fun e H h hd => .le (.ret (.agg (leL_dnil e))) (LeH.refl _) (by have := fin e H h; unfold Eff.av Eff.cells at this; rwa [hd] at this)
  have ha : 0 ≤ x.a ∧ x.a < 8 := ⟨hx.a0, by have := hx.a7; omega⟩
  have hb : 0 ≤ x.b ∧ x.b < 8 := ⟨hx.b0, by have := hx.b7; omega⟩
  have ha19 : x.a.toNat + 1 ≤ 19 := by omega
  have hata := r.at hx.a0 hx.a7
  have hatb := r.at hx.b0 hx.b7
  have hfa := ffault0 hf
  obtain ⟨op, xa, xb, imm⟩ := x
  simp only at ho ha hb ha19 hata hatb
  subst ho
  simp only [go_sem,Nat.reduceAdd,Nat.reduceSub,Nat.reduceEqDiff,Nat.reduceLT,Nat.reduceLeDiff,↓reduceIte,Int.reduceToNat,reduceCtorEq,Int.reduceLT,Int.reduceEq,Ins.av,Ins.cells,Sp.av,Rg.av,Rg.cells]
  refine draw [.qu 0 0, .qu 0 0, .qu 0 0, .qu 0 0, .qu 0 0, .qu 0 0] (by kernel_rfl) (by kernel_rfl) ?_
  simp only [go_sem,Nat.reduceAdd,Nat.reduceSub,Nat.reduceEqDiff,Nat.reduceLT,Nat.reduceLeDiff,↓reduceIte,Int.reduceToNat,reduceCtorEq,Int.reduceLT,Int.reduceEq]
  refine y_call (enters_of Tryd.func35 rfl (by decide)) (fun _ => ACalls.pure_use (rilen_c _ hx) rfl rfl) ?_
  simp only [go_sem,Nat.reduceAdd,Nat.reduceSub,Nat.reduceEqDiff,Nat.reduceLT,Nat.reduceLeDiff,↓reduceIte,Int.reduceToNat,reduceCtorEq,Int.reduceLT,Int.reduceEq]
  refine rK_use (enters_of Tryd.func34 rfl (by decide)) (ACalls.pure_use (rfootprint_c _ hx r hr) rfl rfl) ?_
  simp only [go_sem,Nat.reduceAdd,Nat.reduceSub,Nat.reduceEqDiff,Nat.reduceLT,Nat.reduceLeDiff,↓reduceIte,Int.reduceToNat,reduceCtorEq,Int.reduceLT,Int.reduceEq]
  refine rK_use (enters_of Tryd.func55 rfl (by decide)) (ACalls.pure_use (rFault_c s hs (foot ⟨24, xa, xb, imm⟩ r) (foot_len _ r) (foot_size _ r)) rfl rfl) ?_
  simp only [go_sem,Nat.reduceAdd,Nat.reduceSub,Nat.reduceEqDiff,Nat.reduceLT,Nat.reduceLeDiff,↓reduceIte,Int.reduceToNat,reduceCtorEq,Int.reduceLT,Int.reduceEq,Flt.cells,hf]
  refine rK_use (enters_of Tryd.func28 rfl (by decide)) (ACalls.pure_use (isAlu_c 24) rfl rfl) ?_
  have ht : Ins.hasT ⟨24, xa, xb, imm⟩ = true := by simp [Ins.hasT, isBr, hx]
  have hg : Ins.tgt ⟨24, xa, xb, imm⟩ (iw .i64 (r.pc + (Ins.len ⟨24, xa, xb, imm⟩ : Nat))) = iw .i64 ((iw .i64 (r.pc + (Ins.len ⟨24, xa, xb, imm⟩ : Nat))) + imm) := by rw [Ins.tgt, if_pos ⟨hx, rfl⟩]
  have hfo : foot ⟨24, xa, xb, imm⟩ r = [] := by simp [foot]
  rw [show isAlu 24 = false from rfl]
  simp only [go_sem,Nat.reduceAdd,Nat.reduceSub,Nat.reduceEqDiff,Nat.reduceLT,Nat.reduceLeDiff,↓reduceIte,Int.reduceToNat,reduceCtorEq,Int.reduceLT,Int.reduceEq,Ins.av,Ins.cells,Sp.av,Rg.av,Rg.cells,Eff.cellsD,ha,ha19,hb,hata,hatb,wr0 ha.1 ha.2,trE,Eff.av,Eff.cells]
  refine rK_use (enters_of Tryd.func57 rfl (by decide)) (ACalls.pure_use (rtarget_c _ hx _) rfl rfl) ?_
  rw [ht]
  rw [hg]
  simp only [go_sem,Nat.reduceAdd,Nat.reduceSub,Nat.reduceEqDiff,Nat.reduceLT,Nat.reduceLeDiff,↓reduceIte,Int.reduceToNat,reduceCtorEq,Int.reduceLT,Int.reduceEq,Ins.av,Ins.cells,Sp.av,Rg.av,Rg.cells,Eff.cellsD,ha,ha19,hb,hata,hatb,wr0 ha.1 ha.2,trE,Eff.av,Eff.cells]
  refine rK_use (enters_of Tryd.func36 rfl (by decide)) (ACalls.pure_use (holds_c _ hx r) rfl rfl) ?_
  cases htk : taken ⟨24, xa, xb, imm⟩ r with
  | true =>
    simp only [go_sem,Nat.reduceAdd,Nat.reduceSub,Nat.reduceEqDiff,Nat.reduceLT,Nat.reduceLeDiff,↓reduceIte,Int.reduceToNat,reduceCtorEq,Int.reduceLT,Int.reduceEq,Ins.av,Ins.cells,Sp.av,Rg.av,Rg.cells,Eff.cellsD,ha,ha19,hb,hata,hatb,wr0 ha.1 ha.2,trE,Eff.av,Eff.cells,hfo,Acc.row,List.length_map,o0,m1,m2,m7,mp,Rg.set]
    exact finN (mp (o0 ⟨24, xa, xb, imm⟩ r) (iw .i64 ((iw .i64 (r.pc + (Ins.len ⟨24, xa, xb, imm⟩ : Nat))) + imm))) _ (by unfold exec; rw [reff_ok hf]; simp [isAlu, tabR, Res.eff, Pr.setA, Pr.toPc, Pr.p1, Pr.start, Pr.set7, o0, m1, m2, m7, mp, trE, htk]) rfl
  | false =>
    simp only [go_sem,Nat.reduceAdd,Nat.reduceSub,Nat.reduceEqDiff,Nat.reduceLT,Nat.reduceLeDiff,↓reduceIte,Int.reduceToNat,reduceCtorEq,Int.reduceLT,Int.reduceEq,Ins.av,Ins.cells,Sp.av,Rg.av,Rg.cells,Eff.cellsD,ha,ha19,hb,hata,hatb,wr0 ha.1 ha.2,trE,Eff.av,Eff.cells,hfo,Acc.row,List.length_map,o0,m1,m2,m7,mp,Rg.set]
    exact finN (o0 ⟨24, xa, xb, imm⟩ r) _ (by unfold exec; rw [reff_ok hf]; simp [isAlu, tabR, Res.eff, Pr.setA, Pr.toPc, Pr.p1, Pr.start, Pr.set7, o0, m1, m2, m7, mp, trE, htk]) rfl
theorem rx25_c (x : Ins) (hx : x.ok) (ho : x.op = 25) (s : Sp) (hs : s.ok) (r : Rg) (hr : r.wf) (hf : (ffault s (foot x r)).kind = 0) :
    ACalls Tryd.prog 22 [x.av, s.av, r.av] [] (fun u H => u = .ret (exec x s r).av ∧ H = []) := by
  refine ACalls.up ?_
  refine ACalls.intro (cs := []) (n := 175) Tryd.func22 rfl rfl rfl (by kernel_rfl) rfl ?_
  generalize hpost : (fun (u : Out) (H : Heap) => u = Out.ret (exec x s r).av ∧ H = []) = post
  have fin : ∀ (e : Eff) H, e = exec x s r → Up 0 post (.ret e.av) H := fun e H h => finv (Eff.av_lt e 0) (by rw [← hpost, ← h]; exact ⟨rfl, rfl⟩) H
  have finN : ∀ (e : Eff) H, e = exec x s r → e.data = [] → Up 0 post (.ret (.agg (e.cellsD dnil))) H := fun e H h hd => .le (.ret (.agg (leL_dnil e))) (LeH.refl _) (by have := fin e H h; unfold Eff.av Eff.cells at this; rwa [hd] at this)
  have ha : 0 ≤ x.a ∧ x.a < 8 := ⟨hx.a0, by have := hx.a7; omega⟩
  have hb : 0 ≤ x.b ∧ x.b < 8 := ⟨hx.b0, by have := hx.b7; omega⟩
  have ha19 : x.a.toNat + 1 ≤ 19 := by omega
  have hata := r.at hx.a0 hx.a7
  have hatb := r.at hx.b0 hx.b7
  have hfa := ffault0 hf
  obtain ⟨op, xa, xb, imm⟩ := x
  simp only at ho ha hb ha19 hata hatb
  subst ho
  simp only [go_sem,Nat.reduceAdd,Nat.reduceSub,Nat.reduceEqDiff,Nat.reduceLT,Nat.reduceLeDiff,↓reduceIte,Int.reduceToNat,reduceCtorEq,Int.reduceLT,Int.reduceEq,Ins.av,Ins.cells,Sp.av,Rg.av,Rg.cells]
  refine draw [.qu 0 0, .qu 0 0, .qu 0 0, .qu 0 0, .qu 0 0, .qu 0 0] (by kernel_rfl) (by kernel_rfl) ?_
  simp only [go_sem,Nat.reduceAdd,Nat.reduceSub,Nat.reduceEqDiff,Nat.reduceLT,Nat.reduceLeDiff,↓reduceIte,Int.reduceToNat,reduceCtorEq,Int.reduceLT,Int.reduceEq]
  refine y_call (enters_of Tryd.func35 rfl (by decide)) (fun _ => ACalls.pure_use (rilen_c _ hx) rfl rfl) ?_
  simp only [go_sem,Nat.reduceAdd,Nat.reduceSub,Nat.reduceEqDiff,Nat.reduceLT,Nat.reduceLeDiff,↓reduceIte,Int.reduceToNat,reduceCtorEq,Int.reduceLT,Int.reduceEq]
  refine rK_use (enters_of Tryd.func34 rfl (by decide)) (ACalls.pure_use (rfootprint_c _ hx r hr) rfl rfl) ?_
  simp only [go_sem,Nat.reduceAdd,Nat.reduceSub,Nat.reduceEqDiff,Nat.reduceLT,Nat.reduceLeDiff,↓reduceIte,Int.reduceToNat,reduceCtorEq,Int.reduceLT,Int.reduceEq]
  refine rK_use (enters_of Tryd.func55 rfl (by decide)) (ACalls.pure_use (rFault_c s hs (foot ⟨25, xa, xb, imm⟩ r) (foot_len _ r) (foot_size _ r)) rfl rfl) ?_
  simp only [go_sem,Nat.reduceAdd,Nat.reduceSub,Nat.reduceEqDiff,Nat.reduceLT,Nat.reduceLeDiff,↓reduceIte,Int.reduceToNat,reduceCtorEq,Int.reduceLT,Int.reduceEq,Flt.cells,hf]
  refine rK_use (enters_of Tryd.func28 rfl (by decide)) (ACalls.pure_use (isAlu_c 25) rfl rfl) ?_
  have ht : Ins.hasT ⟨25, xa, xb, imm⟩ = true := by simp [Ins.hasT, isBr, hx]
  have hg : Ins.tgt ⟨25, xa, xb, imm⟩ (iw .i64 (r.pc + (Ins.len ⟨25, xa, xb, imm⟩ : Nat))) = iw .i64 ((iw .i64 (r.pc + (Ins.len ⟨25, xa, xb, imm⟩ : Nat))) + imm) := by rw [Ins.tgt, if_pos ⟨hx, rfl⟩]
  have hfo : foot ⟨25, xa, xb, imm⟩ r = [] := by simp [foot]
  rw [show isAlu 25 = false from rfl]
  simp only [go_sem,Nat.reduceAdd,Nat.reduceSub,Nat.reduceEqDiff,Nat.reduceLT,Nat.reduceLeDiff,↓reduceIte,Int.reduceToNat,reduceCtorEq,Int.reduceLT,Int.reduceEq,Ins.av,Ins.cells,Sp.av,Rg.av,Rg.cells,Eff.cellsD,ha,ha19,hb,hata,hatb,wr0 ha.1 ha.2,trE,Eff.av,Eff.cells]
  refine rK_use (enters_of Tryd.func57 rfl (by decide)) (ACalls.pure_use (rtarget_c _ hx _) rfl rfl) ?_
  rw [ht]
  rw [hg]
  simp only [go_sem,Nat.reduceAdd,Nat.reduceSub,Nat.reduceEqDiff,Nat.reduceLT,Nat.reduceLeDiff,↓reduceIte,Int.reduceToNat,reduceCtorEq,Int.reduceLT,Int.reduceEq,Ins.av,Ins.cells,Sp.av,Rg.av,Rg.cells,Eff.cellsD,ha,ha19,hb,hata,hatb,wr0 ha.1 ha.2,trE,Eff.av,Eff.cells]
  refine rK_use (enters_of Tryd.func36 rfl (by decide)) (ACalls.pure_use (holds_c _ hx r) rfl rfl) ?_
  cases htk : taken ⟨25, xa, xb, imm⟩ r with
  | true =>
    simp only [go_sem,Nat.reduceAdd,Nat.reduceSub,Nat.reduceEqDiff,Nat.reduceLT,Nat.reduceLeDiff,↓reduceIte,Int.reduceToNat,reduceCtorEq,Int.reduceLT,Int.reduceEq,Ins.av,Ins.cells,Sp.av,Rg.av,Rg.cells,Eff.cellsD,ha,ha19,hb,hata,hatb,wr0 ha.1 ha.2,trE,Eff.av,Eff.cells,hfo,Acc.row,List.length_map,o0,m1,m2,m7,mp,Rg.set]
    exact finN (mp (o0 ⟨25, xa, xb, imm⟩ r) (iw .i64 ((iw .i64 (r.pc + (Ins.len ⟨25, xa, xb, imm⟩ : Nat))) + imm))) _ (by unfold exec; rw [reff_ok hf]; simp [isAlu, tabR, Res.eff, Pr.setA, Pr.toPc, Pr.p1, Pr.start, Pr.set7, o0, m1, m2, m7, mp, trE, htk]) rfl
  | false =>
    simp only [go_sem,Nat.reduceAdd,Nat.reduceSub,Nat.reduceEqDiff,Nat.reduceLT,Nat.reduceLeDiff,↓reduceIte,Int.reduceToNat,reduceCtorEq,Int.reduceLT,Int.reduceEq,Ins.av,Ins.cells,Sp.av,Rg.av,Rg.cells,Eff.cellsD,ha,ha19,hb,hata,hatb,wr0 ha.1 ha.2,trE,Eff.av,Eff.cells,hfo,Acc.row,List.length_map,o0,m1,m2,m7,mp,Rg.set]
    exact finN (o0 ⟨25, xa, xb, imm⟩ r) _ (by unfold exec; rw [reff_ok hf]; simp [isAlu, tabR, Res.eff, Pr.setA, Pr.toPc, Pr.p1, Pr.start, Pr.set7, o0, m1, m2, m7, mp, trE, htk]) rfl
theorem rx17_c (x : Ins) (hx : x.ok) (ho : x.op = 17) (s : Sp) (hs : s.ok) (r : Rg) (hr : r.wf) (hf : (ffault s (foot x r)).kind = 0) :
    ACalls Tryd.prog 22 [x.av, s.av, r.av] [] (fun u H => u = .ret (exec x s r).av ∧ H = []) := by
  refine ACalls.up ?_
  refine ACalls.intro (cs := []) (n := 175) Tryd.func22 rfl rfl rfl (by kernel_rfl) rfl ?_
  generalize hpost : (fun (u : Out) (H : Heap) => u = Out.ret (exec x s r).av ∧ H = []) = post
  have fin : ∀ (e : Eff) H, e = exec x s r → Up 0 post (.ret e.av) H := fun e H h => finv (Eff.av_lt e 0) (by rw [← hpost, ← h]; exact ⟨rfl, rfl⟩) H
  have finN : ∀ (e : Eff) H, e = exec x s r → e.data = [] → Up 0 post (.ret (.agg (e.cellsD dnil))) H := fun e H h hd => .le (.ret (.agg (leL_dnil e))) (LeH.refl _) (by have := fin e H h; unfold Eff.av Eff.cells at this; rwa [hd] at this)
  have ha : 0 ≤ x.a ∧ x.a < 8 := ⟨hx.a0, by have := hx.a7; omega⟩
  have hb : 0 ≤ x.b ∧ x.b < 8 := ⟨hx.b0, by have := hx.b7; omega⟩
  have ha19 : x.a.toNat + 1 ≤ 19 := by omega
  have hata := r.at hx.a0 hx.a7
  have hatb := r.at hx.b0 hx.b7
  have hfa := ffault0 hf
  obtain ⟨op, xa, xb, imm⟩ := x
  simp only at ho ha hb ha19 hata hatb
  subst ho
  simp only [go_sem,Nat.reduceAdd,Nat.reduceSub,Nat.reduceEqDiff,Nat.reduceLT,Nat.reduceLeDiff,↓reduceIte,Int.reduceToNat,reduceCtorEq,Int.reduceLT,Int.reduceEq,Ins.av,Ins.cells,Sp.av,Rg.av,Rg.cells]
  refine draw [.qu 0 0, .qu 0 0, .qu 0 0, .qu 0 0, .qu 0 0, .qu 0 0] (by kernel_rfl) (by kernel_rfl) ?_
  simp only [go_sem,Nat.reduceAdd,Nat.reduceSub,Nat.reduceEqDiff,Nat.reduceLT,Nat.reduceLeDiff,↓reduceIte,Int.reduceToNat,reduceCtorEq,Int.reduceLT,Int.reduceEq]
  refine y_call (enters_of Tryd.func35 rfl (by decide)) (fun _ => ACalls.pure_use (rilen_c _ hx) rfl rfl) ?_
  simp only [go_sem,Nat.reduceAdd,Nat.reduceSub,Nat.reduceEqDiff,Nat.reduceLT,Nat.reduceLeDiff,↓reduceIte,Int.reduceToNat,reduceCtorEq,Int.reduceLT,Int.reduceEq]
  refine rK_use (enters_of Tryd.func34 rfl (by decide)) (ACalls.pure_use (rfootprint_c _ hx r hr) rfl rfl) ?_
  simp only [go_sem,Nat.reduceAdd,Nat.reduceSub,Nat.reduceEqDiff,Nat.reduceLT,Nat.reduceLeDiff,↓reduceIte,Int.reduceToNat,reduceCtorEq,Int.reduceLT,Int.reduceEq]
  refine rK_use (enters_of Tryd.func55 rfl (by decide)) (ACalls.pure_use (rFault_c s hs (foot ⟨17, xa, xb, imm⟩ r) (foot_len _ r) (foot_size _ r)) rfl rfl) ?_
  simp only [go_sem,Nat.reduceAdd,Nat.reduceSub,Nat.reduceEqDiff,Nat.reduceLT,Nat.reduceLeDiff,↓reduceIte,Int.reduceToNat,reduceCtorEq,Int.reduceLT,Int.reduceEq,Flt.cells,hf]
  refine rK_use (enters_of Tryd.func28 rfl (by decide)) (ACalls.pure_use (isAlu_c 17) rfl rfl) ?_
  have ht : Ins.hasT ⟨17, xa, xb, imm⟩ = false := by simp [Ins.hasT, isBr]
  have hfo : foot ⟨17, xa, xb, imm⟩ r = [⟨(iw .i64 (r.get xb + imm)), 1, false⟩] := by simp [foot]
  rw [show isAlu 17 = false from rfl]
  simp only [go_sem,Nat.reduceAdd,Nat.reduceSub,Nat.reduceEqDiff,Nat.reduceLT,Nat.reduceLeDiff,↓reduceIte,Int.reduceToNat,reduceCtorEq,Int.reduceLT,Int.reduceEq,Ins.av,Ins.cells,Sp.av,Rg.av,Rg.cells,Eff.cellsD,ha,ha19,hb,hata,hatb,wr0 ha.1 ha.2,trE,Eff.av,Eff.cells]
  refine rK_use (enters_of Tryd.func57 rfl (by decide)) (ACalls.pure_use (rtarget_c _ hx _) rfl rfl) ?_
  rw [ht]
  simp only [go_sem,Nat.reduceAdd,Nat.reduceSub,Nat.reduceEqDiff,Nat.reduceLT,Nat.reduceLeDiff,↓reduceIte,Int.reduceToNat,reduceCtorEq,Int.reduceLT,Int.reduceEq,Ins.av,Ins.cells,Sp.av,Rg.av,Rg.cells,Eff.cellsD,ha,ha19,hb,hata,hatb,wr0 ha.1 ha.2,trE,Eff.av,Eff.cells,hfo,Acc.row,List.length_map,o0,m1,m2,m7,mp,Rg.set]
  refine draw [.qu 0 0, .qu 0 0, .qu 0 0, .qu 0 0, .qu 0 0, .qu 0 0, .qu 0 0, .qu 0 0, .qu 0 0, .mn 0] (by kernel_rfl) (by kernel_rfl) ?_
  simp only [go_sem,Nat.reduceAdd,Nat.reduceSub,Nat.reduceEqDiff,Nat.reduceLT,Nat.reduceLeDiff,↓reduceIte,Int.reduceToNat,reduceCtorEq,Int.reduceLT,Int.reduceEq,Ins.av,Ins.cells,Sp.av,Rg.av,Rg.cells,Eff.cellsD,ha,ha19,hb,hata,hatb,wr0 ha.1 ha.2,trE,Eff.av,Eff.cells,hfo,Acc.row,List.length_map,o0,m1,m2,m7,mp,Rg.set]
  have h01 : 0 ≤ (iw .i64 (r.get xb + imm)) ∧ (iw .i64 (r.get xb + imm)) + ((1 : Nat) : Int) ≤ s.byt.length := in_foot hs (iwI _) (by decide) (by decide) (hfa ⟨(iw .i64 (r.get xb + imm)), 1, false⟩ (by simp [foot]))
  refine y_call (enters_of Tryd.func58 rfl (by decide)) (fun _ => ACalls.pure_use (mem17_c ⟨17, xa, xb, imm⟩ hx rfl s hs r (iw .i64 (r.pc + (Ins.len ⟨17, xa, xb, imm⟩ : Nat))) (iw .i64 (r.get xb + imm)) 1 (by decide) h01.1 h01.2 false (o0 ⟨17, xa, xb, imm⟩ r) rfl) rfl (by simp [AV.lt, ltL, Eff.av_lt])) ?_
  simp only [go_sem,Nat.reduceAdd,Nat.reduceSub,Nat.reduceEqDiff,Nat.reduceLT,Nat.reduceLeDiff,↓reduceIte,Int.reduceToNat,reduceCtorEq,Int.reduceLT,Int.reduceEq,Eff.av,Eff.cells,Eff.cellsD]
  exact fin (m1 (o0 ⟨17, xa, xb, imm⟩ r) xa (rdL (s.sub (iw .i64 (r.get xb + imm)) 1))) _ (by unfold exec; rw [reff_ok hf]; simp [isAlu, tabR, Res.eff, Pr.setA, Pr.toPc, Pr.p1, Pr.start, Pr.set7, o0, m1, m2, m7, mp, trE])
theorem rx18_c (x : Ins) (hx : x.ok) (ho : x.op = 18) (s : Sp) (hs : s.ok) (r : Rg) (hr : r.wf) (hf : (ffault s (foot x r)).kind = 0) :
    ACalls Tryd.prog 22 [x.av, s.av, r.av] [] (fun u H => u = .ret (exec x s r).av ∧ H = []) := by
  refine ACalls.up ?_
  refine ACalls.intro (cs := []) (n := 175) Tryd.func22 rfl rfl rfl (by kernel_rfl) rfl ?_
  generalize hpost : (fun (u : Out) (H : Heap) => u = Out.ret (exec x s r).av ∧ H = []) = post
  have fin : ∀ (e : Eff) H, e = exec x s r → Up 0 post (.ret e.av) H := fun e H h => finv (Eff.av_lt e 0) (by rw [← hpost, ← h]; exact ⟨rfl, rfl⟩) H
  have finN : ∀ (e : Eff) H, e = exec x s r → e.data = [] → Up 0 post (.ret (.agg (e.cellsD dnil))) H := fun e H h hd => .le (.ret (.agg (leL_dnil e))) (LeH.refl _) (by have := fin e H h; unfold Eff.av Eff.cells at this; rwa [hd] at this)
  have ha : 0 ≤ x.a ∧ x.a < 8 := ⟨hx.a0, by have := hx.a7; omega⟩
  have hb : 0 ≤ x.b ∧ x.b < 8 := ⟨hx.b0, by have := hx.b7; omega⟩
  have ha19 : x.a.toNat + 1 ≤ 19 := by omega
  have hata := r.at hx.a0 hx.a7
  have hatb := r.at hx.b0 hx.b7
  have hfa := ffault0 hf
  obtain ⟨op, xa, xb, imm⟩ := x
  simp only at ho ha hb ha19 hata hatb
  subst ho
  simp only [go_sem,Nat.reduceAdd,Nat.reduceSub,Nat.reduceEqDiff,Nat.reduceLT,Nat.reduceLeDiff,↓reduceIte,Int.reduceToNat,reduceCtorEq,Int.reduceLT,Int.reduceEq,Ins.av,Ins.cells,Sp.av,Rg.av,Rg.cells]
  refine draw [.qu 0 0, .qu 0 0, .qu 0 0, .qu 0 0, .qu 0 0, .qu 0 0] (by kernel_rfl) (by kernel_rfl) ?_
  simp only [go_sem,Nat.reduceAdd,Nat.reduceSub,Nat.reduceEqDiff,Nat.reduceLT,Nat.reduceLeDiff,↓reduceIte,Int.reduceToNat,reduceCtorEq,Int.reduceLT,Int.reduceEq]
  refine y_call (enters_of Tryd.func35 rfl (by decide)) (fun _ => ACalls.pure_use (rilen_c _ hx) rfl rfl) ?_
  simp only [go_sem,Nat.reduceAdd,Nat.reduceSub,Nat.reduceEqDiff,Nat.reduceLT,Nat.reduceLeDiff,↓reduceIte,Int.reduceToNat,reduceCtorEq,Int.reduceLT,Int.reduceEq]
  refine rK_use (enters_of Tryd.func34 rfl (by decide)) (ACalls.pure_use (rfootprint_c _ hx r hr) rfl rfl) ?_
  simp only [go_sem,Nat.reduceAdd,Nat.reduceSub,Nat.reduceEqDiff,Nat.reduceLT,Nat.reduceLeDiff,↓reduceIte,Int.reduceToNat,reduceCtorEq,Int.reduceLT,Int.reduceEq]
  refine rK_use (enters_of Tryd.func55 rfl (by decide)) (ACalls.pure_use (rFault_c s hs (foot ⟨18, xa, xb, imm⟩ r) (foot_len _ r) (foot_size _ r)) rfl rfl) ?_
  simp only [go_sem,Nat.reduceAdd,Nat.reduceSub,Nat.reduceEqDiff,Nat.reduceLT,Nat.reduceLeDiff,↓reduceIte,Int.reduceToNat,reduceCtorEq,Int.reduceLT,Int.reduceEq,Flt.cells,hf]
  refine rK_use (enters_of Tryd.func28 rfl (by decide)) (ACalls.pure_use (isAlu_c 18) rfl rfl) ?_
  have ht : Ins.hasT ⟨18, xa, xb, imm⟩ = false := by simp [Ins.hasT, isBr]
  have hfo : foot ⟨18, xa, xb, imm⟩ r = [⟨(iw .i64 (r.get xb + imm)), 8, false⟩] := by simp [foot]
  rw [show isAlu 18 = false from rfl]
  simp only [go_sem,Nat.reduceAdd,Nat.reduceSub,Nat.reduceEqDiff,Nat.reduceLT,Nat.reduceLeDiff,↓reduceIte,Int.reduceToNat,reduceCtorEq,Int.reduceLT,Int.reduceEq,Ins.av,Ins.cells,Sp.av,Rg.av,Rg.cells,Eff.cellsD,ha,ha19,hb,hata,hatb,wr0 ha.1 ha.2,trE,Eff.av,Eff.cells]
  refine rK_use (enters_of Tryd.func57 rfl (by decide)) (ACalls.pure_use (rtarget_c _ hx _) rfl rfl) ?_
  rw [ht]
  simp only [go_sem,Nat.reduceAdd,Nat.reduceSub,Nat.reduceEqDiff,Nat.reduceLT,Nat.reduceLeDiff,↓reduceIte,Int.reduceToNat,reduceCtorEq,Int.reduceLT,Int.reduceEq,Ins.av,Ins.cells,Sp.av,Rg.av,Rg.cells,Eff.cellsD,ha,ha19,hb,hata,hatb,wr0 ha.1 ha.2,trE,Eff.av,Eff.cells,hfo,Acc.row,List.length_map,o0,m1,m2,m7,mp,Rg.set]
  refine draw [.qu 0 0, .qu 0 0, .qu 0 0, .qu 0 0, .qu 0 0, .qu 0 0, .qu 0 0, .qu 0 0, .qu 0 0, .mn 0] (by kernel_rfl) (by kernel_rfl) ?_
  simp only [go_sem,Nat.reduceAdd,Nat.reduceSub,Nat.reduceEqDiff,Nat.reduceLT,Nat.reduceLeDiff,↓reduceIte,Int.reduceToNat,reduceCtorEq,Int.reduceLT,Int.reduceEq,Ins.av,Ins.cells,Sp.av,Rg.av,Rg.cells,Eff.cellsD,ha,ha19,hb,hata,hatb,wr0 ha.1 ha.2,trE,Eff.av,Eff.cells,hfo,Acc.row,List.length_map,o0,m1,m2,m7,mp,Rg.set]
  have h01 : 0 ≤ (iw .i64 (r.get xb + imm)) ∧ (iw .i64 (r.get xb + imm)) + ((8 : Nat) : Int) ≤ s.byt.length := in_foot hs (iwI _) (by decide) (by decide) (hfa ⟨(iw .i64 (r.get xb + imm)), 8, false⟩ (by simp [foot]))
  refine y_call (enters_of Tryd.func58 rfl (by decide)) (fun _ => ACalls.pure_use (mem18_c ⟨18, xa, xb, imm⟩ hx rfl s hs r (iw .i64 (r.pc + (Ins.len ⟨18, xa, xb, imm⟩ : Nat))) (iw .i64 (r.get xb + imm)) 8 (by decide) h01.1 h01.2 false (o0 ⟨18, xa, xb, imm⟩ r) rfl) rfl (by simp [AV.lt, ltL, Eff.av_lt])) ?_
  simp only [go_sem,Nat.reduceAdd,Nat.reduceSub,Nat.reduceEqDiff,Nat.reduceLT,Nat.reduceLeDiff,↓reduceIte,Int.reduceToNat,reduceCtorEq,Int.reduceLT,Int.reduceEq,Eff.av,Eff.cells,Eff.cellsD]
  exact fin (m1 (o0 ⟨18, xa, xb, imm⟩ r) xa (rdL (s.sub (iw .i64 (r.get xb + imm)) 8))) _ (by unfold exec; rw [reff_ok hf]; simp [isAlu, tabR, Res.eff, Pr.setA, Pr.toPc, Pr.p1, Pr.start, Pr.set7, o0, m1, m2, m7, mp, trE])
theorem rx19_c (x : Ins) (hx : x.ok) (ho : x.op = 19) (s : Sp) (hs : s.ok) (r : Rg) (hr : r.wf) (hf : (ffault s (foot x r)).kind = 0) :
    ACalls Tryd.prog 22 [x.av, s.av, r.av] [] (fun u H => u = .ret (exec x s r).av ∧ H = []) := by
  refine ACalls.up ?_
  refine ACalls.intro (cs := []) (n := 175) Tryd.func22 rfl rfl rfl (by kernel_rfl) rfl ?_
  generalize hpost : (fun (u : Out) (H : Heap) => u = Out.ret (exec x s r).av ∧ H = []) = post
  have fin : ∀ (e : Eff) H, e = exec x s r → Up 0 post (.ret e.av) H := fun e H h => finv (Eff.av_lt e 0) (by rw [← hpost, ← h]; exact ⟨rfl, rfl⟩) H
  have finN : ∀ (e : Eff) H, e = exec x s r → e.data = [] → Up 0 post (.ret (.agg (e.cellsD dnil))) H := fun e H h hd => .le (.ret (.agg (leL_dnil e))) (LeH.refl _) (by have := fin e H h; unfold Eff.av Eff.cells at this; rwa [hd] at this)
  have ha : 0 ≤ x.a ∧ x.a < 8 := ⟨hx.a0, by have := hx.a7; omega⟩
  have hb : 0 ≤ x.b ∧ x.b < 8 := ⟨hx.b0, by have := hx.b7; omega⟩
  have ha19 : x.a.toNat + 1 ≤ 19 := by omega
  have hata := r.at hx.a0 hx.a7
  have hatb := r.at hx.b0 hx.b7
  have hfa := ffault0 hf
  obtain ⟨op, xa, xb, imm⟩ := x
  simp only at ho ha hb ha19 hata hatb
  subst ho
  simp only [go_sem,Nat.reduceAdd,Nat.reduceSub,Nat.reduceEqDiff,Nat.reduceLT,Nat.reduceLeDiff,↓reduceIte,Int.reduceToNat,reduceCtorEq,Int.reduceLT,Int.reduceEq,Ins.av,Ins.cells,Sp.av,Rg.av,Rg.cells]
  refine draw [.qu 0 0, .qu 0 0, .qu 0 0, .qu 0 0, .qu 0 0, .qu 0 0] (by kernel_rfl) (by kernel_rfl) ?_
  simp only [go_sem,Nat.reduceAdd,Nat.reduceSub,Nat.reduceEqDiff,Nat.reduceLT,Nat.reduceLeDiff,↓reduceIte,Int.reduceToNat,reduceCtorEq,Int.reduceLT,Int.reduceEq]
  refine y_call (enters_of Tryd.func35 rfl (by decide)) (fun _ => ACalls.pure_use (rilen_c _ hx) rfl rfl) ?_
  simp only [go_sem,Nat.reduceAdd,Nat.reduceSub,Nat.reduceEqDiff,Nat.reduceLT,Nat.reduceLeDiff,↓reduceIte,Int.reduceToNat,reduceCtorEq,Int.reduceLT,Int.reduceEq]
  refine rK_use (enters_of Tryd.func34 rfl (by decide)) (ACalls.pure_use (rfootprint_c _ hx r hr) rfl rfl) ?_
  simp only [go_sem,Nat.reduceAdd,Nat.reduceSub,Nat.reduceEqDiff,Nat.reduceLT,Nat.reduceLeDiff,↓reduceIte,Int.reduceToNat,reduceCtorEq,Int.reduceLT,Int.reduceEq]
  refine rK_use (enters_of Tryd.func55 rfl (by decide)) (ACalls.pure_use (rFault_c s hs (foot ⟨19, xa, xb, imm⟩ r) (foot_len _ r) (foot_size _ r)) rfl rfl) ?_
  simp only [go_sem,Nat.reduceAdd,Nat.reduceSub,Nat.reduceEqDiff,Nat.reduceLT,Nat.reduceLeDiff,↓reduceIte,Int.reduceToNat,reduceCtorEq,Int.reduceLT,Int.reduceEq,Flt.cells,hf]
  refine rK_use (enters_of Tryd.func28 rfl (by decide)) (ACalls.pure_use (isAlu_c 19) rfl rfl) ?_
  have ht : Ins.hasT ⟨19, xa, xb, imm⟩ = false := by simp [Ins.hasT, isBr]
  have hfo : foot ⟨19, xa, xb, imm⟩ r = [⟨(iw .i64 (r.get xb + imm)), 1, true⟩] := by simp [foot]
  rw [show isAlu 19 = false from rfl]
  simp only [go_sem,Nat.reduceAdd,Nat.reduceSub,Nat.reduceEqDiff,Nat.reduceLT,Nat.reduceLeDiff,↓reduceIte,Int.reduceToNat,reduceCtorEq,Int.reduceLT,Int.reduceEq,Ins.av,Ins.cells,Sp.av,Rg.av,Rg.cells,Eff.cellsD,ha,ha19,hb,hata,hatb,wr0 ha.1 ha.2,trE,Eff.av,Eff.cells]
  refine rK_use (enters_of Tryd.func57 rfl (by decide)) (ACalls.pure_use (rtarget_c _ hx _) rfl rfl) ?_
  rw [ht]
  simp only [go_sem,Nat.reduceAdd,Nat.reduceSub,Nat.reduceEqDiff,Nat.reduceLT,Nat.reduceLeDiff,↓reduceIte,Int.reduceToNat,reduceCtorEq,Int.reduceLT,Int.reduceEq,Ins.av,Ins.cells,Sp.av,Rg.av,Rg.cells,Eff.cellsD,ha,ha19,hb,hata,hatb,wr0 ha.1 ha.2,trE,Eff.av,Eff.cells,hfo,Acc.row,List.length_map,o0,m1,m2,m7,mp,Rg.set]
  refine draw [.qu 0 0, .qu 0 0, .qu 0 0, .qu 0 0, .qu 0 0, .qu 0 0, .qu 0 0, .qu 0 0, .qu 0 0, .mn 0] (by kernel_rfl) (by kernel_rfl) ?_
  simp only [go_sem,Nat.reduceAdd,Nat.reduceSub,Nat.reduceEqDiff,Nat.reduceLT,Nat.reduceLeDiff,↓reduceIte,Int.reduceToNat,reduceCtorEq,Int.reduceLT,Int.reduceEq,Ins.av,Ins.cells,Sp.av,Rg.av,Rg.cells,Eff.cellsD,ha,ha19,hb,hata,hatb,wr0 ha.1 ha.2,trE,Eff.av,Eff.cells,hfo,Acc.row,List.length_map,o0,m1,m2,m7,mp,Rg.set]
  refine y_call (enters_of Tryd.func58 rfl (by decide)) (fun _ => ACalls.pure_use (mem19_c ⟨19, xa, xb, imm⟩ hx rfl s hs r (iw .i64 (r.pc + (Ins.len ⟨19, xa, xb, imm⟩ : Nat))) (iw .i64 (r.get xb + imm)) 1 (by decide) true (o0 ⟨19, xa, xb, imm⟩ r) rfl) rfl (by simp [AV.lt, ltL, Eff.av_lt])) ?_
  simp only [go_sem,Nat.reduceAdd,Nat.reduceSub,Nat.reduceEqDiff,Nat.reduceLT,Nat.reduceLeDiff,↓reduceIte,Int.reduceToNat,reduceCtorEq,Int.reduceLT,Int.reduceEq,Eff.av,Eff.cells,Eff.cellsD]
  exact fin (m2 (o0 ⟨19, xa, xb, imm⟩ r) (iw .i64 (r.get xb + imm)) (stL 1 (r.get xa))) _ (by unfold exec; rw [reff_ok hf]; simp [isAlu, tabR, Res.eff, Pr.setA, Pr.toPc, Pr.p1, Pr.start, Pr.set7, o0, m1, m2, m7, mp, trE])
theorem rx20_c (x : Ins) (hx : x.ok) (ho : x.op = 20) (s : Sp) (hs : s.ok) (r : Rg) (hr : r.wf) (hf : (ffault s (foot x r)).kind = 0) :
    ACalls Tryd.prog 22 [x.av, s.av, r.av] [] (fun u H => u = .ret (exec x s r).av ∧ H = []) := by
  refine ACalls.up ?_
  refine ACalls.intro (cs := []) (n := 175) Tryd.func22 rfl rfl rfl (by kernel_rfl) rfl ?_
  generalize hpost : (fun (u : Out) (H : Heap) => u = Out.ret (exec x s r).av ∧ H = []) = post
  have fin : ∀ (e : Eff) H, e = exec x s r → Up 0 post (.ret e.av) H := fun e H h => finv (Eff.av_lt e 0) (by rw [← hpost, ← h]; exact ⟨rfl, rfl⟩) H
  have finN : ∀ (e : Eff) H, e = exec x s r → e.data = [] → Up 0 post (.ret (.agg (e.cellsD dnil))) H := fun e H h hd => .le (.ret (.agg (leL_dnil e))) (LeH.refl _) (by have := fin e H h; unfold Eff.av Eff.cells at this; rwa [hd] at this)
  have ha : 0 ≤ x.a ∧ x.a < 8 := ⟨hx.a0, by have := hx.a7; omega⟩
  have hb : 0 ≤ x.b ∧ x.b < 8 := ⟨hx.b0, by have := hx.b7; omega⟩
  have ha19 : x.a.toNat + 1 ≤ 19 := by omega
  have hata := r.at hx.a0 hx.a7
  have hatb := r.at hx.b0 hx.b7
  have hfa := ffault0 hf
  obtain ⟨op, xa, xb, imm⟩ := x
  simp only at ho ha hb ha19 hata hatb
  subst ho
  simp only [go_sem,Nat.reduceAdd,Nat.reduceSub,Nat.reduceEqDiff,Nat.reduceLT,Nat.reduceLeDiff,↓reduceIte,Int.reduceToNat,reduceCtorEq,Int.reduceLT,Int.reduceEq,Ins.av,Ins.cells,Sp.av,Rg.av,Rg.cells]
  refine draw [.qu 0 0, .qu 0 0, .qu 0 0, .qu 0 0, .qu 0 0, .qu 0 0] (by kernel_rfl) (by kernel_rfl) ?_
  simp only [go_sem,Nat.reduceAdd,Nat.reduceSub,Nat.reduceEqDiff,Nat.reduceLT,Nat.reduceLeDiff,↓reduceIte,Int.reduceToNat,reduceCtorEq,Int.reduceLT,Int.reduceEq]
  refine y_call (enters_of Tryd.func35 rfl (by decide)) (fun _ => ACalls.pure_use (rilen_c _ hx) rfl rfl) ?_
  simp only [go_sem,Nat.reduceAdd,Nat.reduceSub,Nat.reduceEqDiff,Nat.reduceLT,Nat.reduceLeDiff,↓reduceIte,Int.reduceToNat,reduceCtorEq,Int.reduceLT,Int.reduceEq]
  refine rK_use (enters_of Tryd.func34 rfl (by decide)) (ACalls.pure_use (rfootprint_c _ hx r hr) rfl rfl) ?_
  simp only [go_sem,Nat.reduceAdd,Nat.reduceSub,Nat.reduceEqDiff,Nat.reduceLT,Nat.reduceLeDiff,↓reduceIte,Int.reduceToNat,reduceCtorEq,Int.reduceLT,Int.reduceEq]
  refine rK_use (enters_of Tryd.func55 rfl (by decide)) (ACalls.pure_use (rFault_c s hs (foot ⟨20, xa, xb, imm⟩ r) (foot_len _ r) (foot_size _ r)) rfl rfl) ?_
  simp only [go_sem,Nat.reduceAdd,Nat.reduceSub,Nat.reduceEqDiff,Nat.reduceLT,Nat.reduceLeDiff,↓reduceIte,Int.reduceToNat,reduceCtorEq,Int.reduceLT,Int.reduceEq,Flt.cells,hf]
  refine rK_use (enters_of Tryd.func28 rfl (by decide)) (ACalls.pure_use (isAlu_c 20) rfl rfl) ?_
  have ht : Ins.hasT ⟨20, xa, xb, imm⟩ = false := by simp [Ins.hasT, isBr]
  have hfo : foot ⟨20, xa, xb, imm⟩ r = [⟨(iw .i64 (r.get xb + imm)), 8, true⟩] := by simp [foot]
  rw [show isAlu 20 = false from rfl]
  simp only [go_sem,Nat.reduceAdd,Nat.reduceSub,Nat.reduceEqDiff,Nat.reduceLT,Nat.reduceLeDiff,↓reduceIte,Int.reduceToNat,reduceCtorEq,Int.reduceLT,Int.reduceEq,Ins.av,Ins.cells,Sp.av,Rg.av,Rg.cells,Eff.cellsD,ha,ha19,hb,hata,hatb,wr0 ha.1 ha.2,trE,Eff.av,Eff.cells]
  refine rK_use (enters_of Tryd.func57 rfl (by decide)) (ACalls.pure_use (rtarget_c _ hx _) rfl rfl) ?_
  rw [ht]
  simp only [go_sem,Nat.reduceAdd,Nat.reduceSub,Nat.reduceEqDiff,Nat.reduceLT,Nat.reduceLeDiff,↓reduceIte,Int.reduceToNat,reduceCtorEq,Int.reduceLT,Int.reduceEq,Ins.av,Ins.cells,Sp.av,Rg.av,Rg.cells,Eff.cellsD,ha,ha19,hb,hata,hatb,wr0 ha.1 ha.2,trE,Eff.av,Eff.cells,hfo,Acc.row,List.length_map,o0,m1,m2,m7,mp,Rg.set]
  refine draw [.qu 0 0, .qu 0 0, .qu 0 0, .qu 0 0, .qu 0 0, .qu 0 0, .qu 0 0, .qu 0 0, .qu 0 0, .mn 0] (by kernel_rfl) (by kernel_rfl) ?_
  simp only [go_sem,Nat.reduceAdd,Nat.reduceSub,Nat.reduceEqDiff,Nat.reduceLT,Nat.reduceLeDiff,↓reduceIte,Int.reduceToNat,reduceCtorEq,Int.reduceLT,Int.reduceEq,Ins.av,Ins.cells,Sp.av,Rg.av,Rg.cells,Eff.cellsD,ha,ha19,hb,hata,hatb,wr0 ha.1 ha.2,trE,Eff.av,Eff.cells,hfo,Acc.row,List.length_map,o0,m1,m2,m7,mp,Rg.set]
  refine y_call (enters_of Tryd.func58 rfl (by decide)) (fun _ => ACalls.pure_use (mem20_c ⟨20, xa, xb, imm⟩ hx rfl s hs r (iw .i64 (r.pc + (Ins.len ⟨20, xa, xb, imm⟩ : Nat))) (iw .i64 (r.get xb + imm)) 8 (by decide) true (o0 ⟨20, xa, xb, imm⟩ r) rfl) rfl (by simp [AV.lt, ltL, Eff.av_lt])) ?_
  simp only [go_sem,Nat.reduceAdd,Nat.reduceSub,Nat.reduceEqDiff,Nat.reduceLT,Nat.reduceLeDiff,↓reduceIte,Int.reduceToNat,reduceCtorEq,Int.reduceLT,Int.reduceEq,Eff.av,Eff.cells,Eff.cellsD]
  exact fin (m2 (o0 ⟨20, xa, xb, imm⟩ r) (iw .i64 (r.get xb + imm)) (stL 8 (r.get xa))) _ (by unfold exec; rw [reff_ok hf]; simp [isAlu, tabR, Res.eff, Pr.setA, Pr.toPc, Pr.p1, Pr.start, Pr.set7, o0, m1, m2, m7, mp, trE])
theorem rx27_c (x : Ins) (hx : x.ok) (ho : x.op = 27) (s : Sp) (hs : s.ok) (r : Rg) (hr : r.wf) (hf : (ffault s (foot x r)).kind = 0) :
    ACalls Tryd.prog 22 [x.av, s.av, r.av] [] (fun u H => u = .ret (exec x s r).av ∧ H = []) := by
  refine ACalls.up ?_
  refine ACalls.intro (cs := []) (n := 175) Tryd.func22 rfl rfl rfl (by kernel_rfl) rfl ?_
  generalize hpost : (fun (u : Out) (H : Heap) => u = Out.ret (exec x s r).av ∧ H = []) = post
  have fin : ∀ (e : Eff) H, e = exec x s r → Up 0 post (.ret e.av) H := fun e H h => finv (Eff.av_lt e 0) (by rw [← hpost, ← h]; exact ⟨rfl, rfl⟩) H
  have finN : ∀ (e : Eff) H, e = exec x s r → e.data = [] → Up 0 post (.ret (.agg (e.cellsD dnil))) H := fun e H h hd => .le (.ret (.agg (leL_dnil e))) (LeH.refl _) (by have := fin e H h; unfold Eff.av Eff.cells at this; rwa [hd] at this)
  have ha : 0 ≤ x.a ∧ x.a < 8 := ⟨hx.a0, by have := hx.a7; omega⟩
  have hb : 0 ≤ x.b ∧ x.b < 8 := ⟨hx.b0, by have := hx.b7; omega⟩
  have ha19 : x.a.toNat + 1 ≤ 19 := by omega
  have hata := r.at hx.a0 hx.a7
  have hatb := r.at hx.b0 hx.b7
  have hfa := ffault0 hf
  obtain ⟨op, xa, xb, imm⟩ := x
  simp only at ho ha hb ha19 hata hatb
  subst ho
  simp only [go_sem,Nat.reduceAdd,Nat.reduceSub,Nat.reduceEqDiff,Nat.reduceLT,Nat.reduceLeDiff,↓reduceIte,Int.reduceToNat,reduceCtorEq,Int.reduceLT,Int.reduceEq,Ins.av,Ins.cells,Sp.av,Rg.av,Rg.cells]
  refine draw [.qu 0 0, .qu 0 0, .qu 0 0, .qu 0 0, .qu 0 0, .qu 0 0] (by kernel_rfl) (by kernel_rfl) ?_
  simp only [go_sem,Nat.reduceAdd,Nat.reduceSub,Nat.reduceEqDiff,Nat.reduceLT,Nat.reduceLeDiff,↓reduceIte,Int.reduceToNat,reduceCtorEq,Int.reduceLT,Int.reduceEq]
  refine y_call (enters_of Tryd.func35 rfl (by decide)) (fun _ => ACalls.pure_use (rilen_c _ hx) rfl rfl) ?_
  simp only [go_sem,Nat.reduceAdd,Nat.reduceSub,Nat.reduceEqDiff,Nat.reduceLT,Nat.reduceLeDiff,↓reduceIte,Int.reduceToNat,reduceCtorEq,Int.reduceLT,Int.reduceEq]
  refine rK_use (enters_of Tryd.func34 rfl (by decide)) (ACalls.pure_use (rfootprint_c _ hx r hr) rfl rfl) ?_
  simp only [go_sem,Nat.reduceAdd,Nat.reduceSub,Nat.reduceEqDiff,Nat.reduceLT,Nat.reduceLeDiff,↓reduceIte,Int.reduceToNat,reduceCtorEq,Int.reduceLT,Int.reduceEq]
  refine rK_use (enters_of Tryd.func55 rfl (by decide)) (ACalls.pure_use (rFault_c s hs (foot ⟨27, xa, xb, imm⟩ r) (foot_len _ r) (foot_size _ r)) rfl rfl) ?_
  simp only [go_sem,Nat.reduceAdd,Nat.reduceSub,Nat.reduceEqDiff,Nat.reduceLT,Nat.reduceLeDiff,↓reduceIte,Int.reduceToNat,reduceCtorEq,Int.reduceLT,Int.reduceEq,Flt.cells,hf]
  refine rK_use (enters_of Tryd.func28 rfl (by decide)) (ACalls.pure_use (isAlu_c 27) rfl rfl) ?_
  have ht : Ins.hasT ⟨27, xa, xb, imm⟩ = true := by simp [Ins.hasT, isBr, hx]
  have hg : Ins.tgt ⟨27, xa, xb, imm⟩ (iw .i64 (r.pc + (Ins.len ⟨27, xa, xb, imm⟩ : Nat))) = iw .i64 ((iw .i64 (r.pc + (Ins.len ⟨27, xa, xb, imm⟩ : Nat))) + imm) := by rw [Ins.tgt, if_pos ⟨hx, rfl⟩]
  have hfo : foot ⟨27, xa, xb, imm⟩ r = [⟨(iw .i64 (r.r7 - 8)), 8, true⟩] := by simp [foot]
  rw [show isAlu 27 = false from rfl]
  simp only [go_sem,Nat.reduceAdd,Nat.reduceSub,Nat.reduceEqDiff,Nat.reduceLT,Nat.reduceLeDiff,↓reduceIte,Int.reduceToNat,reduceCtorEq,Int.reduceLT,Int.reduceEq,Ins.av,Ins.cells,Sp.av,Rg.av,Rg.cells,Eff.cellsD,ha,ha19,hb,hata,hatb,wr0 ha.1 ha.2,trE,Eff.av,Eff.cells]
  refine rK_use (enters_of Tryd.func57 rfl (by decide)) (ACalls.pure_use (rtarget_c _ hx _) rfl rfl) ?_
  rw [ht]
  rw [hg]
  simp only [go_sem,Nat.reduceAdd,Nat.reduceSub,Nat.reduceEqDiff,Nat.reduceLT,Nat.reduceLeDiff,↓reduceIte,Int.reduceToNat,reduceCtorEq,Int.reduceLT,Int.reduceEq,Ins.av,Ins.cells,Sp.av,Rg.av,Rg.cells,Eff.cellsD,ha,ha19,hb,hata,hatb,wr0 ha.1 ha.2,trE,Eff.av,Eff.cells]
  refine rK_use (enters_of Tryd.func36 rfl (by decide)) (ACalls.pure_use (holds_c _ hx r) rfl rfl) ?_
  rw [show taken ⟨27, xa, xb, imm⟩ r = true by simp [taken]]
  simp only [go_sem,Nat.reduceAdd,Nat.reduceSub,Nat.reduceEqDiff,Nat.reduceLT,Nat.reduceLeDiff,↓reduceIte,Int.reduceToNat,reduceCtorEq,Int.reduceLT,Int.reduceEq,Ins.av,Ins.cells,Sp.av,Rg.av,Rg.cells,Eff.cellsD,ha,ha19,hb,hata,hatb,wr0 ha.1 ha.2,trE,Eff.av,Eff.cells,hfo,Acc.row,List.length_map,o0,m1,m2,m7,mp,Rg.set]
  refine draw [.qu 0 0, .qu 0 0, .qu 0 0, .qu 0 0, .qu 0 0, .qu 0 0, .qu 0 0, .qu 0 0, .qu 0 0, .mn 0] (by kernel_rfl) (by kernel_rfl) ?_
  simp only [go_sem,Nat.reduceAdd,Nat.reduceSub,Nat.reduceEqDiff,Nat.reduceLT,Nat.reduceLeDiff,↓reduceIte,Int.reduceToNat,reduceCtorEq,Int.reduceLT,Int.reduceEq,Ins.av,Ins.cells,Sp.av,Rg.av,Rg.cells,Eff.cellsD,ha,ha19,hb,hata,hatb,wr0 ha.1 ha.2,trE,Eff.av,Eff.cells,hfo,Acc.row,List.length_map,o0,m1,m2,m7,mp,Rg.set]
  refine y_call (enters_of Tryd.func58 rfl (by decide)) (fun _ => ACalls.pure_use (mem27_c ⟨27, xa, xb, imm⟩ hx rfl s hs r (iw .i64 (r.pc + (Ins.len ⟨27, xa, xb, imm⟩ : Nat))) (iw .i64 (r.r7 - 8)) 8 (by decide) true (mp (o0 ⟨27, xa, xb, imm⟩ r) (iw .i64 ((iw .i64 (r.pc + (Ins.len ⟨27, xa, xb, imm⟩ : Nat))) + imm))) rfl) rfl (by simp [AV.lt, ltL, Eff.av_lt])) ?_
  simp only [go_sem,Nat.reduceAdd,Nat.reduceSub,Nat.reduceEqDiff,Nat.reduceLT,Nat.reduceLeDiff,↓reduceIte,Int.reduceToNat,reduceCtorEq,Int.reduceLT,Int.reduceEq,Eff.av,Eff.cells,Eff.cellsD]
  exact fin (m7 (m2 (mp (o0 ⟨27, xa, xb, imm⟩ r) (iw .i64 ((iw .i64 (r.pc + (Ins.len ⟨27, xa, xb, imm⟩ : Nat))) + imm))) (iw .i64 (r.r7 - 8)) (stL 8 (iw .i64 (r.pc + (Ins.len ⟨27, xa, xb, imm⟩ : Nat))))) (iw .i64 (r.r7 - 8))) _ (by unfold exec; rw [reff_ok hf]; simp [isAlu, tabR, Res.eff, Pr.setA, Pr.toPc, Pr.p1, Pr.start, Pr.set7, o0, m1, m2, m7, mp, trE])
theorem rx28_c (x : Ins) (hx : x.ok) (ho : x.op = 28) (s : Sp) (hs : s.ok) (r : Rg) (hr : r.wf) (hf : (ffault s (foot x r)).kind = 0) :
    ACalls Tryd.prog 22 [x.av, s.av, r.av] [] (fun u H => u = .ret (exec x s r).av ∧ H = []) := by
  refine ACalls.up ?_
  refine ACalls.intro (cs := []) (n := 175) Tryd.func22 rfl rfl rfl (by kernel_rfl) rfl ?_
  generalize hpost : (fun (u : Out) (H : Heap) => u = Out.ret (exec x s r).av ∧ H = []) = post
  have fin : ∀ (e : Eff) H, e = exec x s r → Up 0 post (.ret e.av) H := fun e H h => finv (Eff.av_lt e 0) (by rw [← hpost, ← h]; exact ⟨rfl, rfl⟩) H
  have finN : ∀ (e : Eff) H, e = exec x s r → e.data = [] → Up 0 post (.ret (.agg (e.cellsD dnil))) H := fun e H h hd => .le (.ret (.agg (leL_dnil e))) (LeH.refl _) (by have := fin e H h; unfold Eff.av Eff.cells at this; rwa [hd] at this)
  have ha : 0 ≤ x.a ∧ x.a < 8 := ⟨hx.a0, by have := hx.a7; omega⟩
  have hb : 0 ≤ x.b ∧ x.b < 8 := ⟨hx.b0, by have := hx.b7; omega⟩
  have ha19 : x.a.toNat + 1 ≤ 19 := by omega
  have hata := r.at hx.a0 hx.a7
  have hatb := r.at hx.b0 hx.b7
  have hfa := ffault0 hf
  obtain ⟨op, xa, xb, imm⟩ := x
  simp only at ho ha hb ha19 hata hatb
  subst ho
  simp only [go_sem,Nat.reduceAdd,Nat.reduceSub,Nat.reduceEqDiff,Nat.reduceLT,Nat.reduceLeDiff,↓reduceIte,Int.reduceToNat,reduceCtorEq,Int.reduceLT,Int.reduceEq,Ins.av,Ins.cells,Sp.av,Rg.av,Rg.cells]
  refine draw [.qu 0 0, .qu 0 0, .qu 0 0, .qu 0 0, .qu 0 0, .qu 0 0] (by kernel_rfl) (by kernel_rfl) ?_
  simp only [go_sem,Nat.reduceAdd,Nat.reduceSub,Nat.reduceEqDiff,Nat.reduceLT,Nat.reduceLeDiff,↓reduceIte,Int.reduceToNat,reduceCtorEq,Int.reduceLT,Int.reduceEq]
  refine y_call (enters_of Tryd.func35 rfl (by decide)) (fun _ => ACalls.pure_use (rilen_c _ hx) rfl rfl) ?_
  simp only [go_sem,Nat.reduceAdd,Nat.reduceSub,Nat.reduceEqDiff,Nat.reduceLT,Nat.reduceLeDiff,↓reduceIte,Int.reduceToNat,reduceCtorEq,Int.reduceLT,Int.reduceEq]
  refine rK_use (enters_of Tryd.func34 rfl (by decide)) (ACalls.pure_use (rfootprint_c _ hx r hr) rfl rfl) ?_
  simp only [go_sem,Nat.reduceAdd,Nat.reduceSub,Nat.reduceEqDiff,Nat.reduceLT,Nat.reduceLeDiff,↓reduceIte,Int.reduceToNat,reduceCtorEq,Int.reduceLT,Int.reduceEq]
  refine rK_use (enters_of Tryd.func55 rfl (by decide)) (ACalls.pure_use (rFault_c s hs (foot ⟨28, xa, xb, imm⟩ r) (foot_len _ r) (foot_size _ r)) rfl rfl) ?_
  simp only [go_sem,Nat.reduceAdd,Nat.reduceSub,Nat.reduceEqDiff,Nat.reduceLT,Nat.reduceLeDiff,↓reduceIte,Int.reduceToNat,reduceCtorEq,Int.reduceLT,Int.reduceEq,Flt.cells,hf]
  refine rK_use (enters_of Tryd.func28 rfl (by decide)) (ACalls.pure_use (isAlu_c 28) rfl rfl) ?_
  have ht : Ins.hasT ⟨28, xa, xb, imm⟩ = false := by simp [Ins.hasT, isBr]
  have hfo : foot ⟨28, xa, xb, imm⟩ r = [⟨(iw .i64 (r.r7 - 8)), 8, true⟩] := by simp [foot]
  rw [show isAlu 28 = false from rfl]
  simp only [go_sem,Nat.reduceAdd,Nat.reduceSub,Nat.reduceEqDiff,Nat.reduceLT,Nat.reduceLeDiff,↓reduceIte,Int.reduceToNat,reduceCtorEq,Int.reduceLT,Int.reduceEq,Ins.av,Ins.cells,Sp.av,Rg.av,Rg.cells,Eff.cellsD,ha,ha19,hb,hata,hatb,wr0 ha.1 ha.2,trE,Eff.av,Eff.cells]
  refine rK_use (enters_of Tryd.func57 rfl (by decide)) (ACalls.pure_use (rtarget_c _ hx _) rfl rfl) ?_
  rw [ht]
  simp only [go_sem,Nat.reduceAdd,Nat.reduceSub,Nat.reduceEqDiff,Nat.reduceLT,Nat.reduceLeDiff,↓reduceIte,Int.reduceToNat,reduceCtorEq,Int.reduceLT,Int.reduceEq,Ins.av,Ins.cells,Sp.av,Rg.av,Rg.cells,Eff.cellsD,ha,ha19,hb,hata,hatb,wr0 ha.1 ha.2,trE,Eff.av,Eff.cells,hfo,Acc.row,List.length_map,o0,m1,m2,m7,mp,Rg.set]
  refine draw [.qu 0 0, .qu 0 0, .qu 0 0, .qu 0 0, .qu 0 0, .qu 0 0, .qu 0 0, .qu 0 0, .qu 0 0, .mn 0] (by kernel_rfl) (by kernel_rfl) ?_
  simp only [go_sem,Nat.reduceAdd,Nat.reduceSub,Nat.reduceEqDiff,Nat.reduceLT,Nat.reduceLeDiff,↓reduceIte,Int.reduceToNat,reduceCtorEq,Int.reduceLT,Int.reduceEq,Ins.av,Ins.cells,Sp.av,Rg.av,Rg.cells,Eff.cellsD,ha,ha19,hb,hata,hatb,wr0 ha.1 ha.2,trE,Eff.av,Eff.cells,hfo,Acc.row,List.length_map,o0,m1,m2,m7,mp,Rg.set]
  refine y_call (enters_of Tryd.func58 rfl (by decide)) (fun _ => ACalls.pure_use (mem28_c ⟨28, xa, xb, imm⟩ hx rfl s hs r (iw .i64 (r.pc + (Ins.len ⟨28, xa, xb, imm⟩ : Nat))) (iw .i64 (r.r7 - 8)) 8 (by decide) true (o0 ⟨28, xa, xb, imm⟩ r) rfl) rfl (by simp [AV.lt, ltL, Eff.av_lt])) ?_
  simp only [go_sem,Nat.reduceAdd,Nat.reduceSub,Nat.reduceEqDiff,Nat.reduceLT,Nat.reduceLeDiff,↓reduceIte,Int.reduceToNat,reduceCtorEq,Int.reduceLT,Int.reduceEq,Eff.av,Eff.cells,Eff.cellsD]
  exact fin (mp (m7 (m2 (o0 ⟨28, xa, xb, imm⟩ r) (iw .i64 (r.r7 - 8)) (stL 8 (iw .i64 (r.pc + (Ins.len ⟨28, xa, xb, imm⟩ : Nat))))) (iw .i64 (r.r7 - 8))) (r.get xa)) _ (by unfold exec; rw [reff_ok hf]; simp [isAlu, tabR, Res.eff, Pr.setA, Pr.toPc, Pr.p1, Pr.start, Pr.set7, o0, m1, m2, m7, mp, trE])
theorem rx29_c (x : Ins) (hx : x.ok) (ho : x.op = 29) (s : Sp) (hs : s.ok) (r : Rg) (hr : r.wf) (hf : (ffault s (foot x r)).kind = 0) :
    ACalls Tryd.prog 22 [x.av, s.av, r.av] [] (fun u H => u = .ret (exec x s r).av ∧ H = []) := by
  refine ACalls.up ?_
  refine ACalls.intro (cs := []) (n := 175) Tryd.func22 rfl rfl rfl (by kernel_rfl) rfl ?_
  generalize hpost : (fun (u : Out) (H : Heap) => u = Out.ret (exec x s r).av ∧ H = []) = post
  have fin : ∀ (e : Eff) H, e = exec x s r → Up 0 post (.ret e.av) H := fun e H h => finv (Eff.av_lt e 0) (by rw [← hpost, ← h]; exact ⟨rfl, rfl⟩) H
  have finN : ∀ (e : Eff) H, e = exec x s r → e.data = [] → Up 0 post (.ret (.agg (e.cellsD dnil))) H := fun e H h hd => .le (.ret (.agg (leL_dnil e))) (LeH.refl _) (by have := fin e H h; unfold Eff.av Eff.cells at this; rwa [hd] at this)
  have ha : 0 ≤ x.a ∧ x.a < 8 := ⟨hx.a0, by have := hx.a7; omega⟩
  have hb : 0 ≤ x.b ∧ x.b < 8 := ⟨hx.b0, by have := hx.b7; omega⟩
  have ha19 : x.a.toNat + 1 ≤ 19 := by omega
  have hata := r.at hx.a0 hx.a7
  have hatb := r.at hx.b0 hx.b7
  have hfa := ffault0 hf
  obtain ⟨op, xa, xb, imm⟩ := x
  simp only at ho ha hb ha19 hata hatb
  subst ho
  simp only [go_sem,Nat.reduceAdd,Nat.reduceSub,Nat.reduceEqDiff,Nat.reduceLT,Nat.reduceLeDiff,↓reduceIte,Int.reduceToNat,reduceCtorEq,Int.reduceLT,Int.reduceEq,Ins.av,Ins.cells,Sp.av,Rg.av,Rg.cells]
  refine draw [.qu 0 0, .qu 0 0, .qu 0 0, .qu 0 0, .qu 0 0, .qu 0 0] (by kernel_rfl) (by kernel_rfl) ?_
  simp only [go_sem,Nat.reduceAdd,Nat.reduceSub,Nat.reduceEqDiff,Nat.reduceLT,Nat.reduceLeDiff,↓reduceIte,Int.reduceToNat,reduceCtorEq,Int.reduceLT,Int.reduceEq]
  refine y_call (enters_of Tryd.func35 rfl (by decide)) (fun _ => ACalls.pure_use (rilen_c _ hx) rfl rfl) ?_
  simp only [go_sem,Nat.reduceAdd,Nat.reduceSub,Nat.reduceEqDiff,Nat.reduceLT,Nat.reduceLeDiff,↓reduceIte,Int.reduceToNat,reduceCtorEq,Int.reduceLT,Int.reduceEq]
  refine rK_use (enters_of Tryd.func34 rfl (by decide)) (ACalls.pure_use (rfootprint_c _ hx r hr) rfl rfl) ?_
  simp only [go_sem,Nat.reduceAdd,Nat.reduceSub,Nat.reduceEqDiff,Nat.reduceLT,Nat.reduceLeDiff,↓reduceIte,Int.reduceToNat,reduceCtorEq,Int.reduceLT,Int.reduceEq]
  refine rK_use (enters_of Tryd.func55 rfl (by decide)) (ACalls.pure_use (rFault_c s hs (foot ⟨29, xa, xb, imm⟩ r) (foot_len _ r) (foot_size _ r)) rfl rfl) ?_
  simp only [go_sem,Nat.reduceAdd,Nat.reduceSub,Nat.reduceEqDiff,Nat.reduceLT,Nat.reduceLeDiff,↓reduceIte,Int.reduceToNat,reduceCtorEq,Int.reduceLT,Int.reduceEq,Flt.cells,hf]
  refine rK_use (enters_of Tryd.func28 rfl (by decide)) (ACalls.pure_use (isAlu_c 29) rfl rfl) ?_
  have ht : Ins.hasT ⟨29, xa, xb, imm⟩ = false := by simp [Ins.hasT, isBr]
  have hfo : foot ⟨29, xa, xb, imm⟩ r = [⟨r.r7, 8, false⟩] := by simp [foot]
  rw [show isAlu 29 = false from rfl]
  simp only [go_sem,Nat.reduceAdd,Nat.reduceSub,Nat.reduceEqDiff,Nat.reduceLT,Nat.reduceLeDiff,↓reduceIte,Int.reduceToNat,reduceCtorEq,Int.reduceLT,Int.reduceEq,Ins.av,Ins.cells,Sp.av,Rg.av,Rg.cells,Eff.cellsD,ha,ha19,hb,hata,hatb,wr0 ha.1 ha.2,trE,Eff.av,Eff.cells]
  refine rK_use (enters_of Tryd.func57 rfl (by decide)) (ACalls.pure_use (rtarget_c _ hx _) rfl rfl) ?_
  rw [ht]
  simp only [go_sem,Nat.reduceAdd,Nat.reduceSub,Nat.reduceEqDiff,Nat.reduceLT,Nat.reduceLeDiff,↓reduceIte,Int.reduceToNat,reduceCtorEq,Int.reduceLT,Int.reduceEq,Ins.av,Ins.cells,Sp.av,Rg.av,Rg.cells,Eff.cellsD,ha,ha19,hb,hata,hatb,wr0 ha.1 ha.2,trE,Eff.av,Eff.cells,hfo,Acc.row,List.length_map,o0,m1,m2,m7,mp,Rg.set]
  refine draw [.qu 0 0, .qu 0 0, .qu 0 0, .qu 0 0, .qu 0 0, .qu 0 0, .qu 0 0, .qu 0 0, .qu 0 0, .mn 0] (by kernel_rfl) (by kernel_rfl) ?_
  simp only [go_sem,Nat.reduceAdd,Nat.reduceSub,Nat.reduceEqDiff,Nat.reduceLT,Nat.reduceLeDiff,↓reduceIte,Int.reduceToNat,reduceCtorEq,Int.reduceLT,Int.reduceEq,Ins.av,Ins.cells,Sp.av,Rg.av,Rg.cells,Eff.cellsD,ha,ha19,hb,hata,hatb,wr0 ha.1 ha.2,trE,Eff.av,Eff.cells,hfo,Acc.row,List.length_map,o0,m1,m2,m7,mp,Rg.set]
  have h01 : 0 ≤ r.r7 ∧ r.r7 + ((8 : Nat) : Int) ≤ s.byt.length := in_foot hs (hr.reg _ (by simp [Rg.list])) (by decide) (by decide) (hfa ⟨r.r7, 8, false⟩ (by simp [foot]))
  refine y_call (enters_of Tryd.func58 rfl (by decide)) (fun _ => ACalls.pure_use (mem29_c ⟨29, xa, xb, imm⟩ hx rfl s hs r (iw .i64 (r.pc + (Ins.len ⟨29, xa, xb, imm⟩ : Nat))) r.r7 8 (by decide) h01.1 h01.2 false (o0 ⟨29, xa, xb, imm⟩ r) rfl) rfl (by simp [AV.lt, ltL, Eff.av_lt])) ?_
  simp only [go_sem,Nat.reduceAdd,Nat.reduceSub,Nat.reduceEqDiff,Nat.reduceLT,Nat.reduceLeDiff,↓reduceIte,Int.reduceToNat,reduceCtorEq,Int.reduceLT,Int.reduceEq,Eff.av,Eff.cells,Eff.cellsD]
  exact fin (m7 (mp (o0 ⟨29, xa, xb, imm⟩ r) (rdL (s.sub r.r7 8))) (iw .i64 (r.r7 + 8))) _ (by unfold exec; rw [reff_ok hf]; simp [isAlu, tabR, Res.eff, Pr.setA, Pr.toPc, Pr.p1, Pr.start, Pr.set7, o0, m1, m2, m7, mp, trE])
theorem rx30_c (x : Ins) (hx : x.ok) (ho : x.op = 30) (s : Sp) (hs : s.ok) (r : Rg) (hr : r.wf) (hf : (ffault s (foot x r)).kind = 0) :
    ACalls Tryd.prog 22 [x.av, s.av, r.av] [] (fun u H => u = .ret (exec x s r).av ∧ H = []) := by
  refine ACalls.up ?_
  refine ACalls.intro (cs := []) (n := 175) Tryd.func22 rfl rfl rfl (by kernel_rfl) rfl ?_
  generalize hpost : (fun (u : Out) (H : Heap) => u = Out.ret (exec x s r).av ∧ H = []) = post
  have fin : ∀ (e : Eff) H, e = exec x s r → Up 0 post (.ret e.av) H := fun e H h => finv (Eff.av_lt e 0) (by rw [← hpost, ← h]; exact ⟨rfl, rfl⟩) H
  have finN : ∀ (e : Eff) H, e = exec x s r → e.data = [] → Up 0 post (.ret (.agg (e.cellsD dnil))) H := fun e H h hd => .le (.ret (.agg (leL_dnil e))) (LeH.refl _) (by have := fin e H h; unfold Eff.av Eff.cells at this; rwa [hd] at this)
  have ha : 0 ≤ x.a ∧ x.a < 8 := ⟨hx.a0, by have := hx.a7; omega⟩
  have hb : 0 ≤ x.b ∧ x.b < 8 := ⟨hx.b0, by have := hx.b7; omega⟩
  have ha19 : x.a.toNat + 1 ≤ 19 := by omega
  have hata := r.at hx.a0 hx.a7
  have hatb := r.at hx.b0 hx.b7
  have hfa := ffault0 hf
  obtain ⟨op, xa, xb, imm⟩ := x
  simp only at ho ha hb ha19 hata hatb
  subst ho
  simp only [go_sem,Nat.reduceAdd,Nat.reduceSub,Nat.reduceEqDiff,Nat.reduceLT,Nat.reduceLeDiff,↓reduceIte,Int.reduceToNat,reduceCtorEq,Int.reduceLT,Int.reduceEq,Ins.av,Ins.cells,Sp.av,Rg.av,Rg.cells]
  refine draw [.qu 0 0, .qu 0 0, .qu 0 0, .qu 0 0, .qu 0 0, .qu 0 0] (by kernel_rfl) (by kernel_rfl) ?_
  simp only [go_sem,Nat.reduceAdd,Nat.reduceSub,Nat.reduceEqDiff,Nat.reduceLT,Nat.reduceLeDiff,↓reduceIte,Int.reduceToNat,reduceCtorEq,Int.reduceLT,Int.reduceEq]
  refine y_call (enters_of Tryd.func35 rfl (by decide)) (fun _ => ACalls.pure_use (rilen_c _ hx) rfl rfl) ?_
  simp only [go_sem,Nat.reduceAdd,Nat.reduceSub,Nat.reduceEqDiff,Nat.reduceLT,Nat.reduceLeDiff,↓reduceIte,Int.reduceToNat,reduceCtorEq,Int.reduceLT,Int.reduceEq]
  refine rK_use (enters_of Tryd.func34 rfl (by decide)) (ACalls.pure_use (rfootprint_c _ hx r hr) rfl rfl) ?_
  simp only [go_sem,Nat.reduceAdd,Nat.reduceSub,Nat.reduceEqDiff,Nat.reduceLT,Nat.reduceLeDiff,↓reduceIte,Int.reduceToNat,reduceCtorEq,Int.reduceLT,Int.reduceEq]
  refine rK_use (enters_of Tryd.func55 rfl (by decide)) (ACalls.pure_use (rFault_c s hs (foot ⟨30, xa, xb, imm⟩ r) (foot_len _ r) (foot_size _ r)) rfl rfl) ?_
  simp only [go_sem,Nat.reduceAdd,Nat.reduceSub,Nat.reduceEqDiff,Nat.reduceLT,Nat.reduceLeDiff,↓reduceIte,Int.reduceToNat,reduceCtorEq,Int.reduceLT,Int.reduceEq,Flt.cells,hf]
  refine rK_use (enters_of Tryd.func28 rfl (by decide)) (ACalls.pure_use (isAlu_c 30) rfl rfl) ?_
  have ht : Ins.hasT ⟨30, xa, xb, imm⟩ = false := by simp [Ins.hasT, isBr]
  have hfo : foot ⟨30, xa, xb, imm⟩ r = [⟨(iw .i64 (r.r7 - 8)), 8, true⟩] := by simp [foot]
  rw [show isAlu 30 = false from rfl]
  simp only [go_sem,Nat.reduceAdd,Nat.reduceSub,Nat.reduceEqDiff,Nat.reduceLT,Nat.reduceLeDiff,↓reduceIte,Int.reduceToNat,reduceCtorEq,Int.reduceLT,Int.reduceEq,Ins.av,Ins.cells,Sp.av,Rg.av,Rg.cells,Eff.cellsD,ha,ha19,hb,hata,hatb,wr0 ha.1 ha.2,trE,Eff.av,Eff.cells]
  refine rK_use (enters_of Tryd.func57 rfl (by decide)) (ACalls.pure_use (rtarget_c _ hx _) rfl rfl) ?_
  rw [ht]
  simp only [go_sem,Nat.reduceAdd,Nat.reduceSub,Nat.reduceEqDiff,Nat.reduceLT,Nat.reduceLeDiff,↓reduceIte,Int.reduceToNat,reduceCtorEq,Int.reduceLT,Int.reduceEq,Ins.av,Ins.cells,Sp.av,Rg.av,Rg.cells,Eff.cellsD,ha,ha19,hb,hata,hatb,wr0 ha.1 ha.2,trE,Eff.av,Eff.cells,hfo,Acc.row,List.length_map,o0,m1,m2,m7,mp,Rg.set]
  refine draw [.qu 0 0, .qu 0 0, .qu 0 0, .qu 0 0, .qu 0 0, .qu 0 0, .qu 0 0, .qu 0 0, .qu 0 0, .mn 0] (by kernel_rfl) (by kernel_rfl) ?_
  simp only [go_sem,Nat.reduceAdd,Nat.reduceSub,Nat.reduceEqDiff,Nat.reduceLT,Nat.reduceLeDiff,↓reduceIte,Int.reduceToNat,reduceCtorEq,Int.reduceLT,Int.reduceEq,Ins.av,Ins.cells,Sp.av,Rg.av,Rg.cells,Eff.cellsD,ha,ha19,hb,hata,hatb,wr0 ha.1 ha.2,trE,Eff.av,Eff.cells,hfo,Acc.row,List.length_map,o0,m1,m2,m7,mp,Rg.set]
  refine y_call (enters_of Tryd.func58 rfl (by decide)) (fun _ => ACalls.pure_use (mem30_c ⟨30, xa, xb, imm⟩ hx rfl s hs r (iw .i64 (r.pc + (Ins.len ⟨30, xa, xb, imm⟩ : Nat))) (iw .i64 (r.r7 - 8)) 8 (by decide) true (o0 ⟨30, xa, xb, imm⟩ r) rfl) rfl (by simp [AV.lt, ltL, Eff.av_lt])) ?_
  simp only [go_sem,Nat.reduceAdd,Nat.reduceSub,Nat.reduceEqDiff,Nat.reduceLT,Nat.reduceLeDiff,↓reduceIte,Int.reduceToNat,reduceCtorEq,Int.reduceLT,Int.reduceEq,Eff.av,Eff.cells,Eff.cellsD]
  exact fin (m7 (m2 (o0 ⟨30, xa, xb, imm⟩ r) (iw .i64 (r.r7 - 8)) (stL 8 (r.get xa))) (iw .i64 (r.r7 - 8))) _ (by unfold exec; rw [reff_ok hf]; simp [isAlu, tabR, Res.eff, Pr.setA, Pr.toPc, Pr.p1, Pr.start, Pr.set7, o0, m1, m2, m7, mp, trE])
theorem rx31_c (x : Ins) (hx : x.ok) (ho : x.op = 31) (s : Sp) (hs : s.ok) (r : Rg) (hr : r.wf) (hf : (ffault s (foot x r)).kind = 0) :
    ACalls Tryd.prog 22 [x.av, s.av, r.av] [] (fun u H => u = .ret (exec x s r).av ∧ H = []) := by
  refine ACalls.up ?_
  refine ACalls.intro (cs := []) (n := 175) Tryd.func22 rfl rfl rfl (by kernel_rfl) rfl ?_
  generalize hpost : (fun (u : Out) (H : Heap) => u = Out.ret (exec x s r).av ∧ H = []) = post
  have fin : ∀ (e : Eff) H, e = exec x s r → Up 0 post (.ret e.av) H := fun e H h => finv (Eff.av_lt e 0) (by rw [← hpost, ← h]; exact ⟨rfl, rfl⟩) H
  have finN : ∀ (e : Eff) H, e = exec x s r → e.data = [] → Up 0 post (.ret (.agg (e.cellsD dnil))) H := fun e H h hd => .le (.ret (.agg (leL_dnil e))) (LeH.refl _) (by have := fin e H h; unfold Eff.av Eff.cells at this; rwa [hd] at this)
  have ha : 0 ≤ x.a ∧ x.a < 8 := ⟨hx.a0, by have := hx.a7; omega⟩
  have hb : 0 ≤ x.b ∧ x.b < 8 := ⟨hx.b0, by have := hx.b7; omega⟩
  have ha19 : x.a.toNat + 1 ≤ 19 := by omega
  have hata := r.at hx.a0 hx.a7
  have hatb := r.at hx.b0 hx.b7
  have hfa := ffault0 hf
  obtain ⟨op, xa, xb, imm⟩ := x
  simp only at ho ha hb ha19 hata hatb
  subst ho
  simp only [go_sem,Nat.reduceAdd,Nat.reduceSub,Nat.reduceEqDiff,Nat.reduceLT,Nat.reduceLeDiff,↓reduceIte,Int.reduceToNat,reduceCtorEq,Int.reduceLT,Int.reduceEq,Ins.av,Ins.cells,Sp.av,Rg.av,Rg.cells]
  refine draw [.qu 0 0, .qu 0 0, .qu 0 0, .qu 0 0, .qu 0 0, .qu 0 0] (by kernel_rfl) (by kernel_rfl) ?_
  simp only [go_sem,Nat.reduceAdd,Nat.reduceSub,Nat.reduceEqDiff,Nat.reduceLT,Nat.reduceLeDiff,↓reduceIte,Int.reduceToNat,reduceCtorEq,Int.reduceLT,Int.reduceEq]
  refine y_call (enters_of Tryd.func35 rfl (by decide)) (fun _ => ACalls.pure_use (rilen_c _ hx) rfl rfl) ?_
  simp only [go_sem,Nat.reduceAdd,Nat.reduceSub,Nat.reduceEqDiff,Nat.reduceLT,Nat.reduceLeDiff,↓reduceIte,Int.reduceToNat,reduceCtorEq,Int.reduceLT,Int.reduceEq]
  refine rK_use (enters_of Tryd.func34 rfl (by decide)) (ACalls.pure_use (rfootprint_c _ hx r hr) rfl rfl) ?_
  simp only [go_sem,Nat.reduceAdd,Nat.reduceSub,Nat.reduceEqDiff,Nat.reduceLT,Nat.reduceLeDiff,↓reduceIte,Int.reduceToNat,reduceCtorEq,Int.reduceLT,Int.reduceEq]
  refine rK_use (enters_of Tryd.func55 rfl (by decide)) (ACalls.pure_use (rFault_c s hs (foot ⟨31, xa, xb, imm⟩ r) (foot_len _ r) (foot_size _ r)) rfl rfl) ?_
  simp only [go_sem,Nat.reduceAdd,Nat.reduceSub,Nat.reduceEqDiff,Nat.reduceLT,Nat.reduceLeDiff,↓reduceIte,Int.reduceToNat,reduceCtorEq,Int.reduceLT,Int.reduceEq,Flt.cells,hf]
  refine rK_use (enters_of Tryd.func28 rfl (by decide)) (ACalls.pure_use (isAlu_c 31) rfl rfl) ?_
  have ht : Ins.hasT ⟨31, xa, xb, imm⟩ = false := by simp [Ins.hasT, isBr]
  have hfo : foot ⟨31, xa, xb, imm⟩ r = [⟨r.r7, 8, false⟩] := by simp [foot]
  rw [show isAlu 31 = false from rfl]
  simp only [go_sem,Nat.reduceAdd,Nat.reduceSub,Nat.reduceEqDiff,Nat.reduceLT,Nat.reduceLeDiff,↓reduceIte,Int.reduceToNat,reduceCtorEq,Int.reduceLT,Int.reduceEq,Ins.av,Ins.cells,Sp.av,Rg.av,Rg.cells,Eff.cellsD,ha,ha19,hb,hata,hatb,wr0 ha.1 ha.2,trE,Eff.av,Eff.cells]
  refine rK_use (enters_of Tryd.func57 rfl (by decide)) (ACalls.pure_use (rtarget_c _ hx _) rfl rfl) ?_
  rw [ht]
  simp only [go_sem,Nat.reduceAdd,Nat.reduceSub,Nat.reduceEqDiff,Nat.reduceLT,Nat.reduceLeDiff,↓reduceIte,Int.reduceToNat,reduceCtorEq,Int.reduceLT,Int.reduceEq,Ins.av,Ins.cells,Sp.av,Rg.av,Rg.cells,Eff.cellsD,ha,ha19,hb,hata,hatb,wr0 ha.1 ha.2,trE,Eff.av,Eff.cells,hfo,Acc.row,List.length_map,o0,m1,m2,m7,mp,Rg.set]
  refine draw [.qu 0 0, .qu 0 0, .qu 0 0, .qu 0 0, .qu 0 0, .qu 0 0, .qu 0 0, .qu 0 0, .qu 0 0, .mn 0] (by kernel_rfl) (by kernel_rfl) ?_
  simp only [go_sem,Nat.reduceAdd,Nat.reduceSub,Nat.reduceEqDiff,Nat.reduceLT,Nat.reduceLeDiff,↓reduceIte,Int.reduceToNat,reduceCtorEq,Int.reduceLT,Int.reduceEq,Ins.av,Ins.cells,Sp.av,Rg.av,Rg.cells,Eff.cellsD,ha,ha19,hb,hata,hatb,wr0 ha.1 ha.2,trE,Eff.av,Eff.cells,hfo,Acc.row,List.length_map,o0,m1,m2,m7,mp,Rg.set]
  have h01 : 0 ≤ r.r7 ∧ r.r7 + ((8 : Nat) : Int) ≤ s.byt.length := in_foot hs (hr.reg _ (by simp [Rg.list])) (by decide) (by decide) (hfa ⟨r.r7, 8, false⟩ (by simp [foot]))
  refine y_call (enters_of Tryd.func58 rfl (by decide)) (fun _ => ACalls.pure_use (mem31_c ⟨31, xa, xb, imm⟩ hx rfl s hs r (iw .i64 (r.pc + (Ins.len ⟨31, xa, xb, imm⟩ : Nat))) r.r7 8 (by decide) h01.1 h01.2 false (o0 ⟨31, xa, xb, imm⟩ r) rfl) rfl (by simp [AV.lt, ltL, Eff.av_lt])) ?_
  simp only [go_sem,Nat.reduceAdd,Nat.reduceSub,Nat.reduceEqDiff,Nat.reduceLT,Nat.reduceLeDiff,↓reduceIte,Int.reduceToNat,reduceCtorEq,Int.reduceLT,Int.reduceEq,Eff.av,Eff.cells,Eff.cellsD]
  exact fin (m1 (m7 (o0 ⟨31, xa, xb, imm⟩ r) (iw .i64 (r.r7 + 8))) xa (rdL (s.sub r.r7 8))) _ (by unfold exec; rw [reff_ok hf]; simp [isAlu, tabR, Res.eff, Pr.setA, Pr.toPc, Pr.p1, Pr.start, Pr.set7, o0, m1, m2, m7, mp, trE])
theorem rx34_c (x : Ins) (hx : x.ok) (ho : x.op = 34) (s : Sp) (hs : s.ok) (r : Rg) (hr : r.wf) (hf : (ffault s (foot x r)).kind = 0) :
    ACalls Tryd.prog 22 [x.av, s.av, r.av] [] (fun u H => u = .ret (exec x s r).av ∧ H = []) := by
  refine ACalls.up ?_
  refine ACalls.intro (cs := []) (n := 175) Tryd.func22 rfl rfl rfl (by kernel_rfl) rfl ?_
  generalize hpost : (fun (u : Out) (H : Heap) => u = Out.ret (exec x s r).av ∧ H = []) = post
  have fin : ∀ (e : Eff) H, e = exec x s r → Up 0 post (.ret e.av) H := fun e H h => finv (Eff.av_lt e 0) (by rw [← hpost, ← h]; exact ⟨rfl, rfl⟩) H
  have finN : ∀ (e : Eff) H, e = exec x s r → e.data = [] → Up 0 post (.ret (.agg (e.cellsD dnil))) H := fun e H h hd => .le (.ret (.agg (leL_dnil e))) (LeH.refl _) (by have := fin e H h; unfold Eff.av Eff.cells at this; rwa [hd] at this)
  have ha : 0 ≤ x.a ∧ x.a < 8 := ⟨hx.a0, by have := hx.a7; omega⟩
  have hb : 0 ≤ x.b ∧ x.b < 8 := ⟨hx.b0, by have := hx.b7; omega⟩
  have ha19 : x.a.toNat + 1 ≤ 19 := by omega
  have hata := r.at hx.a0 hx.a7
  have hatb := r.at hx.b0 hx.b7
  have hfa := ffault0 hf
  obtain ⟨op, xa, xb, imm⟩ := x
  simp only at ho ha hb ha19 hata hatb
  subst ho
  simp only [go_sem,Nat.reduceAdd,Nat.reduceSub,Nat.reduceEqDiff,Nat.reduceLT,Nat.reduceLeDiff,↓reduceIte,Int.reduceToNat,reduceCtorEq,Int.reduceLT,Int.reduceEq,Ins.av,Ins.cells,Sp.av,Rg.av,Rg.cells]
  refine draw [.qu 0 0, .qu 0 0, .qu 0 0, .qu 0 0, .qu 0 0, .qu 0 0] (by kernel_rfl) (by kernel_rfl) ?_
  simp only [go_sem,Nat.reduceAdd,Nat.reduceSub,Nat.reduceEqDiff,Nat.reduceLT,Nat.reduceLeDiff,↓reduceIte,Int.reduceToNat,reduceCtorEq,Int.reduceLT,Int.reduceEq]
  refine y_call (enters_of Tryd.func35 rfl (by decide)) (fun _ => ACalls.pure_use (rilen_c _ hx) rfl rfl) ?_
  simp only [go_sem,Nat.reduceAdd,Nat.reduceSub,Nat.reduceEqDiff,Nat.reduceLT,Nat.reduceLeDiff,↓reduceIte,Int.reduceToNat,reduceCtorEq,Int.reduceLT,Int.reduceEq]
  refine rK_use (enters_of Tryd.func34 rfl (by decide)) (ACalls.pure_use (rfootprint_c _ hx r hr) rfl rfl) ?_
  simp only [go_sem,Nat.reduceAdd,Nat.reduceSub,Nat.reduceEqDiff,Nat.reduceLT,Nat.reduceLeDiff,↓reduceIte,Int.reduceToNat,reduceCtorEq,Int.reduceLT,Int.reduceEq]
  refine rK_use (enters_of Tryd.func55 rfl (by decide)) (ACalls.pure_use (rFault_c s hs (foot ⟨34, xa, xb, imm⟩ r) (foot_len _ r) (foot_size _ r)) rfl rfl) ?_
  simp only [go_sem,Nat.reduceAdd,Nat.reduceSub,Nat.reduceEqDiff,Nat.reduceLT,Nat.reduceLeDiff,↓reduceIte,Int.reduceToNat,reduceCtorEq,Int.reduceLT,Int.reduceEq,Flt.cells,hf]
  refine rK_use (enters_of Tryd.func28 rfl (by decide)) (ACalls.pure_use (isAlu_c 34) rfl rfl) ?_
  have ht : Ins.hasT ⟨34, xa, xb, imm⟩ = false := by simp [Ins.hasT, isBr]
  have hfo : foot ⟨34, xa, xb, imm⟩ r = [⟨(iw .i64 (r.get xb + imm)), 8, false⟩, ⟨(iw .i64 (r.get xb + imm)), 8, true⟩] := by simp [foot]
  rw [show isAlu 34 = false from rfl]
  simp only [go_sem,Nat.reduceAdd,Nat.reduceSub,Nat.reduceEqDiff,Nat.reduceLT,Nat.reduceLeDiff,↓reduceIte,Int.reduceToNat,reduceCtorEq,Int.reduceLT,Int.reduceEq,Ins.av,Ins.cells,Sp.av,Rg.av,Rg.cells,Eff.cellsD,ha,ha19,hb,hata,hatb,wr0 ha.1 ha.2,trE,Eff.av,Eff.cells]
  refine rK_use (enters_of Tryd.func57 rfl (by decide)) (ACalls.pure_use (rtarget_c _ hx _) rfl rfl) ?_
  rw [ht]
  simp only [go_sem,Nat.reduceAdd,Nat.reduceSub,Nat.reduceEqDiff,Nat.reduceLT,Nat.reduceLeDiff,↓reduceIte,Int.reduceToNat,reduceCtorEq,Int.reduceLT,Int.reduceEq,Ins.av,Ins.cells,Sp.av,Rg.av,Rg.cells,Eff.cellsD,ha,ha19,hb,hata,hatb,wr0 ha.1 ha.2,trE,Eff.av,Eff.cells,hfo,Acc.row,List.length_map,o0,m1,m2,m7,mp,Rg.set]
  refine draw [.qu 0 0, .qu 0 0, .qu 0 0, .qu 0 0, .qu 0 0, .qu 0 0, .qu 0 0, .qu 0 0, .qu 0 0, .mn 0] (by kernel_rfl) (by kernel_rfl) ?_
  simp only [go_sem,Nat.reduceAdd,Nat.reduceSub,Nat.reduceEqDiff,Nat.reduceLT,Nat.reduceLeDiff,↓reduceIte,Int.reduceToNat,reduceCtorEq,Int.reduceLT,Int.reduceEq,Ins.av,Ins.cells,Sp.av,Rg.av,Rg.cells,Eff.cellsD,ha,ha19,hb,hata,hatb,wr0 ha.1 ha.2,trE,Eff.av,Eff.cells,hfo,Acc.row,List.length_map,o0,m1,m2,m7,mp,Rg.set]
  have h01 : 0 ≤ (iw .i64 (r.get xb + imm)) ∧ (iw .i64 (r.get xb + imm)) + ((8 : Nat) : Int) ≤ s.byt.length := in_foot hs (iwI _) (by decide) (by decide) (hfa ⟨(iw .i64 (r.get xb + imm)), 8, false⟩ (by simp [foot]))
  have e34 : iw .i64 (r.get xb + imm) = r.get xb := by
    have h1 := hr.get xb
    have h2 : imm = 0 := swap_imm hx rfl
    unfold I64 at h1
    rw [h2, Int.add_zero]
    exact iw64 h1.1 h1.2
  refine y_call (enters_of Tryd.func58 rfl (by decide)) (fun _ => ACalls.pure_use (mem34_c ⟨34, xa, xb, imm⟩ hx rfl s hs r (iw .i64 (r.pc + (Ins.len ⟨34, xa, xb, imm⟩ : Nat))) (iw .i64 (r.get xb + imm)) 8 (by decide) h01.1 h01.2 false (o0 ⟨34, xa, xb, imm⟩ r) rfl) rfl (by simp [AV.lt, ltL, Eff.av_lt])) ?_
  simp only [go_sem,Nat.reduceAdd,Nat.reduceSub,Nat.reduceEqDiff,Nat.reduceLT,Nat.reduceLeDiff,↓reduceIte,Int.reduceToNat,reduceCtorEq,Int.reduceLT,Int.reduceEq,Eff.av,Eff.cells,Eff.cellsD]
  exact fin (m1 (m2 (o0 ⟨34, xa, xb, imm⟩ r) (iw .i64 (r.get xb + imm)) (stL 8 (r.get xa))) xa (rdL (s.sub (iw .i64 (r.get xb + imm)) 8))) _ (by unfold exec; rw [reff_ok hf]; simp [isAlu, tabR, Res.eff, Pr.setA, Pr.toPc, Pr.p1, Pr.start, Pr.set7, o0, m1, m2, m7, mp, trE, e34])
theorem rexec_c (x : Ins) (hx : x.ok) (s : Sp) (hs : s.ok) (r : Rg) (hr : r.wf) :
    ACalls Tryd.prog 22 [x.av, s.av, r.av] [] (fun u H => u = .ret (exec x s r).av ∧ H = []) := by
  by_cases hf : (ffault s (foot x r)).kind = 0
  · have ho := ops35 hx.op
    rcases ho with h | h | h | h | h | h | h | h | h | h | h | h | h | h | h | h | h | h | h | h | h | h | h | h | h | h | h | h | h | h | h | h | h | h | h
    · exact rx76_c x hx h s hs r hr hf
    · exact rx1_c x hx h s hs r hr hf
    · exact rx2_c x hx h s hs r hr hf
    · exact rx3_c x hx h s hs r hr hf
    · exact rx4_c x hx h s hs r hr hf
    · exact rx5_c x hx h s hs r hr hf
    · exact rx6_c x hx h s hs r hr hf
    · exact rx7_c x hx h s hs r hr hf
    · exact rx8_c x hx h s hs r hr hf
    · exact rx9_c x hx h s hs r hr hf
    · exact rx10_c x hx h s hs r hr hf
    · exact rx11_c x hx h s hs r hr hf
    · exact rx12_c x hx h s hs r hr hf
    · exact rx13_c x hx h s hs r hr hf
    · exact rx14_c x hx h s hs r hr hf
    · exact rx15_c x hx h s hs r hr hf
    · exact rx16_c x hx h s hs r hr hf
    · exact rx17_c x hx h s hs r hr hf
    · exact rx18_c x hx h s hs r hr hf
    · exact rx19_c x hx h s hs r hr hf
    · exact rx20_c x hx h s hs r hr hf
    · exact rx21_c x hx h s hs r hr hf
    · exact rx22_c x hx h s hs r hr hf
    · exact rx23_c x hx h s hs r hr hf
    · exact rx24_c x hx h s hs r hr hf
    · exact rx25_c x hx h s hs r hr hf
    · exact rx26_c x hx h s hs r hr hf
    · exact rx27_c x hx h s hs r hr hf
    · exact rx28_c x hx h s hs r hr hf
    · exact rx29_c x hx h s hs r hr hf
    · exact rx30_c x hx h s hs r hr hf
    · exact rx31_c x hx h s hs r hr hf
    · exact rx32_c x hx h s hs r hr hf
    · exact rx33_c x hx h s hs r hr hf
    · exact rx34_c x hx h s hs r hr hf
  · refine ACalls.up ?_
    refine ACalls.intro (cs := []) (n := 175) Tryd.func22 rfl rfl rfl (by kernel_rfl) rfl ?_
    generalize hpost : (fun (u : Out) (H : Heap) => u = Out.ret (exec x s r).av ∧ H = []) = post
    have fin : ∀ (e : Eff) H, e = exec x s r → Up 0 post (.ret e.av) H := fun e H h => finv (Eff.av_lt e 0) (by rw [← hpost, ← h]; exact ⟨rfl, rfl⟩) H
    simp only [go_sem,Nat.reduceAdd,Nat.reduceSub,Nat.reduceEqDiff,Nat.reduceLT,Nat.reduceLeDiff,↓reduceIte,Int.reduceToNat,reduceCtorEq,Int.reduceLT,Int.reduceEq,Ins.av,Ins.cells,Sp.av,Rg.av,Rg.cells]
    refine draw [.qu 0 0, .qu 0 0, .qu 0 0, .qu 0 0, .qu 0 0, .qu 0 0] (by kernel_rfl) (by kernel_rfl) ?_
    simp only [go_sem,Nat.reduceAdd,Nat.reduceSub,Nat.reduceEqDiff,Nat.reduceLT,Nat.reduceLeDiff,↓reduceIte,Int.reduceToNat,reduceCtorEq,Int.reduceLT,Int.reduceEq]
    refine y_call (enters_of Tryd.func35 rfl (by decide)) (fun _ => ACalls.pure_use (rilen_c x hx) rfl rfl) ?_
    simp only [go_sem,Nat.reduceAdd,Nat.reduceSub,Nat.reduceEqDiff,Nat.reduceLT,Nat.reduceLeDiff,↓reduceIte,Int.reduceToNat,reduceCtorEq,Int.reduceLT,Int.reduceEq]
    refine rK_use (enters_of Tryd.func34 rfl (by decide)) (ACalls.pure_use (rfootprint_c x hx r hr) rfl rfl) ?_
    simp only [go_sem,Nat.reduceAdd,Nat.reduceSub,Nat.reduceEqDiff,Nat.reduceLT,Nat.reduceLeDiff,↓reduceIte,Int.reduceToNat,reduceCtorEq,Int.reduceLT,Int.reduceEq]
    refine rK_use (enters_of Tryd.func55 rfl (by decide)) (ACalls.pure_use (rFault_c s hs (foot x r) (foot_len x r) (foot_size x r)) rfl rfl) ?_
    simp only [go_sem,Nat.reduceAdd,Nat.reduceSub,Nat.reduceEqDiff,Nat.reduceLT,Nat.reduceLeDiff,↓reduceIte,Int.reduceToNat,reduceCtorEq,Int.reduceLT,Int.reduceEq,Flt.cells,hf]
    refine rK_use (enters_of Tryd.func56 rfl (by decide)) (ACalls.pure_use (trapped_c x r ⟨3, 0, ffault s (foot x r)⟩) rfl (by simp [AV.lt, ltL, Eff.av_lt])) ?_
    simp only [go_sem,Nat.reduceAdd,Nat.reduceSub,Nat.reduceEqDiff,Nat.reduceLT,Nat.reduceLeDiff,↓reduceIte,Int.reduceToNat,reduceCtorEq,Int.reduceLT,Int.reduceEq,Eff.av,Eff.cells,Eff.cellsD,trE]
    exact fin (trE x r ⟨3, 0, ffault s (foot x r)⟩) _ (rexec_f hf).symm
end Go.Proofs.YtojfnagfafoiaaaDoor
