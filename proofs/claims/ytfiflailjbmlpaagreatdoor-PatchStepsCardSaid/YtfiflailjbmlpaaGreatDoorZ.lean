/- patch: PatchSteps, as the card states it. No condition. -/
import Derived.Test.YtfiflailjbmlpaaGreatDoorZ5
import Derived.Test.YtfiflailjbmlpaaGreatDoorTie
import Derived.Test.YtfiflailjbmlpaaGreatDoorCards
import Derived.ProofKit
import Derived.OpenShut
import Derived.LaidMore
import Derived.Lay
import Derived.SevenTiedAt
import Derived.Stop.Joined
set_option maxRecDepth 100000
set_option linter.unusedVariables false
set_option linter.unusedSimpArgs false
namespace Go.Proofs.YtfiflailjbmlpaaGreatDoor
open Go.AM
def m1 (o : Eff) (a v : Int) : Eff := { o with rg := o.rg.set a v }
def m2 (o : Eff) (pos : Int) (d : List UInt8) : Eff := { o with pos := pos, data := d }
def m7 (o : Eff) (v : Int) : Eff := { o with rg := { o.rg with r7 := v } }
def mp (o : Eff) (v : Int) : Eff := { o with rg := { o.rg with pc := v } }
theorem mem17_c (x : Ins) (hx : x.ok) (ho : x.op = 17) (s : Sp) (hs : s.ok) (r : Rg) (next q : Int) (n : Nat) (hn : n ≤ 8) (h0 : 0 ≤ q) (h1 : q + n ≤ s.byt.length) (w : Bool) (o : Eff) (hd : o.data = []) :
    ACalls Tryz.prog 92 [x.av, s.av, r.av, iv next, .agg [iv q, iv n, .bool w], .agg (o.cellsD dnil)] [] (fun u H => u = .ret (m1 o x.a (rdL (s.sub q n))).av ∧ H = []) := by
  refine ACalls.up ?_
  refine ACalls.intro (cs := []) (n := 140) Tryz.func92 rfl rfl rfl (by kernel_rfl) rfl ?_
  generalize hpost : (fun (u : Out) (H : Heap) => u = Out.ret (m1 o x.a (rdL (s.sub q n))).av ∧ H = []) = post
  have fin : ∀ (e : Eff) H, e = m1 o x.a (rdL (s.sub q n)) → Up 0 post (.ret e.av) H := fun e H h => finv (Eff.av_lt e 0) (by rw [← hpost, ← h]; exact ⟨rfl, rfl⟩) H
  have finN : ∀ (e : Eff) H, e = m1 o x.a (rdL (s.sub q n)) → e.data = [] → Up 0 post (.ret (.agg (e.cellsD dnil))) H := fun e H h hd => .le (.ret (.agg (leL_dnil e))) (LeH.refl _) (by have := fin e H h; unfold Eff.av Eff.cells at this; rwa [hd] at this)
  have ha : 0 ≤ x.a ∧ x.a < 8 := ⟨hx.a0, by have := hx.a7; omega⟩
  have ha19 : x.a.toNat + 1 ≤ 19 := by omega
  have hat := r.at hx.a0 hx.a7
  obtain ⟨op, xa, xb, imm⟩ := x
  simp only at ho ha ha19 hat
  subst ho
  simp only [go_sem,Nat.reduceAdd,Nat.reduceSub,Nat.reduceMul,Nat.reduceEqDiff,Nat.reduceLeDiff,Nat.reduceLT,↓reduceIte,Int.reduceToNat,reduceCtorEq,Int.reduceLT,Int.reduceLE,Int.reduceGT,Int.reduceGE,Int.reduceEq,Int.reduceNe,Int.reduceNeg,Int.reduceAdd,Int.reduceSub,Ins.av,Ins.cells,Sp.av,Rg.av,Rg.cells,Eff.cellsD,ha,ha19,hat,wr0 ha.1 ha.2]
  refine draw [.qu 0 0, .qu 0 0, .qu 0 0, .qu 0 0, .qu 0 0, .qu 0 0, .qu 0 0, .qu 0 0, .qu 0 0, .qu 0 0, .qu 0 0, .mn 0] (by kernel_rfl) (by kernel_rfl) ?_
  simp only [go_sem,Nat.reduceAdd,Nat.reduceSub,Nat.reduceMul,Nat.reduceEqDiff,Nat.reduceLeDiff,Nat.reduceLT,↓reduceIte,Int.reduceToNat,reduceCtorEq,Int.reduceLT,Int.reduceLE,Int.reduceGT,Int.reduceGE,Int.reduceEq,Int.reduceNe,Int.reduceNeg,Int.reduceAdd,Int.reduceSub,Ins.av,Ins.cells,Sp.av,Rg.av,Rg.cells,Eff.cellsD,ha,ha19,hat,wr0 ha.1 ha.2]
  refine y_call (enters_of Tryz.func115 rfl (by decide)) (fun _ => ACalls.pure_use (read_c s hs q n hn h0 h1) rfl rfl) ?_
  simp only [go_sem,Nat.reduceAdd,Nat.reduceSub,Nat.reduceMul,Nat.reduceEqDiff,Nat.reduceLeDiff,Nat.reduceLT,↓reduceIte,Int.reduceToNat,reduceCtorEq,Int.reduceLT,Int.reduceLE,Int.reduceGT,Int.reduceGE,Int.reduceEq,Int.reduceNe,Int.reduceNeg,Int.reduceAdd,Int.reduceSub,Ins.av,Ins.cells,Sp.av,Rg.av,Rg.cells,Eff.cellsD,ha,ha19,hat,wr0 ha.1 ha.2]
  exact finN (m1 o xa (rdL (s.sub q n))) _ rfl hd
theorem mem18_c (x : Ins) (hx : x.ok) (ho : x.op = 18) (s : Sp) (hs : s.ok) (r : Rg) (next q : Int) (n : Nat) (hn : n ≤ 8) (h0 : 0 ≤ q) (h1 : q + n ≤ s.byt.length) (w : Bool) (o : Eff) (hd : o.data = []) :
    ACalls Tryz.prog 92 [x.av, s.av, r.av, iv next, .agg [iv q, iv n, .bool w], .agg (o.cellsD dnil)] [] (fun u H => u = .ret (m1 o x.a (rdL (s.sub q n))).av ∧ H = []) := by
  refine ACalls.up ?_
  refine ACalls.intro (cs := []) (n := 140) Tryz.func92 rfl rfl rfl (by kernel_rfl) rfl ?_
  generalize hpost : (fun (u : Out) (H : Heap) => u = Out.ret (m1 o x.a (rdL (s.sub q n))).av ∧ H = []) = post
  have fin : ∀ (e : Eff) H, e = m1 o x.a (rdL (s.sub q n)) → Up 0 post (.ret e.av) H := fun e H h => finv (Eff.av_lt e 0) (by rw [← hpost, ← h]; exact ⟨rfl, rfl⟩) H
  have finN : ∀ (e : Eff) H, e = m1 o x.a (rdL (s.sub q n)) → e.data = [] → Up 0 post (.ret (.agg (e.cellsD dnil))) H := fun e H h hd => .le (.ret (.agg (leL_dnil e))) (LeH.refl _) (by have := fin e H h; unfold Eff.av Eff.cells at this; rwa [hd] at this)
  have ha : 0 ≤ x.a ∧ x.a < 8 := ⟨hx.a0, by have := hx.a7; omega⟩
  have ha19 : x.a.toNat + 1 ≤ 19 := by omega
  have hat := r.at hx.a0 hx.a7
  obtain ⟨op, xa, xb, imm⟩ := x
  simp only at ho ha ha19 hat
  subst ho
  simp only [go_sem,Nat.reduceAdd,Nat.reduceSub,Nat.reduceMul,Nat.reduceEqDiff,Nat.reduceLeDiff,Nat.reduceLT,↓reduceIte,Int.reduceToNat,reduceCtorEq,Int.reduceLT,Int.reduceLE,Int.reduceGT,Int.reduceGE,Int.reduceEq,Int.reduceNe,Int.reduceNeg,Int.reduceAdd,Int.reduceSub,Ins.av,Ins.cells,Sp.av,Rg.av,Rg.cells,Eff.cellsD,ha,ha19,hat,wr0 ha.1 ha.2]
  refine draw [.qu 0 0, .qu 0 0, .qu 0 0, .qu 0 0, .qu 0 0, .qu 0 0, .qu 0 0, .qu 0 0, .qu 0 0, .qu 0 0, .qu 0 0, .mn 0] (by kernel_rfl) (by kernel_rfl) ?_
  simp only [go_sem,Nat.reduceAdd,Nat.reduceSub,Nat.reduceMul,Nat.reduceEqDiff,Nat.reduceLeDiff,Nat.reduceLT,↓reduceIte,Int.reduceToNat,reduceCtorEq,Int.reduceLT,Int.reduceLE,Int.reduceGT,Int.reduceGE,Int.reduceEq,Int.reduceNe,Int.reduceNeg,Int.reduceAdd,Int.reduceSub,Ins.av,Ins.cells,Sp.av,Rg.av,Rg.cells,Eff.cellsD,ha,ha19,hat,wr0 ha.1 ha.2]
  refine y_call (enters_of Tryz.func115 rfl (by decide)) (fun _ => ACalls.pure_use (read_c s hs q n hn h0 h1) rfl rfl) ?_
  simp only [go_sem,Nat.reduceAdd,Nat.reduceSub,Nat.reduceMul,Nat.reduceEqDiff,Nat.reduceLeDiff,Nat.reduceLT,↓reduceIte,Int.reduceToNat,reduceCtorEq,Int.reduceLT,Int.reduceLE,Int.reduceGT,Int.reduceGE,Int.reduceEq,Int.reduceNe,Int.reduceNeg,Int.reduceAdd,Int.reduceSub,Ins.av,Ins.cells,Sp.av,Rg.av,Rg.cells,Eff.cellsD,ha,ha19,hat,wr0 ha.1 ha.2]
  exact finN (m1 o xa (rdL (s.sub q n))) _ rfl hd
theorem mem19_c (x : Ins) (hx : x.ok) (ho : x.op = 19) (s : Sp) (hs : s.ok) (r : Rg) (next q : Int) (n : Nat) (hn : n ≤ 8) (w : Bool) (o : Eff) (hd : o.data = []) :
    ACalls Tryz.prog 92 [x.av, s.av, r.av, iv next, .agg [iv q, iv n, .bool w], .agg (o.cellsD dnil)] [] (fun u H => u = .ret (m2 o q (stL n (r.get x.a))).av ∧ H = []) := by
  refine ACalls.up ?_
  refine ACalls.intro (cs := []) (n := 140) Tryz.func92 rfl rfl rfl (by kernel_rfl) rfl ?_
  generalize hpost : (fun (u : Out) (H : Heap) => u = Out.ret (m2 o q (stL n (r.get x.a))).av ∧ H = []) = post
  have fin : ∀ (e : Eff) H, e = m2 o q (stL n (r.get x.a)) → Up 0 post (.ret e.av) H := fun e H h => finv (Eff.av_lt e 0) (by rw [← hpost, ← h]; exact ⟨rfl, rfl⟩) H
  have finN : ∀ (e : Eff) H, e = m2 o q (stL n (r.get x.a)) → e.data = [] → Up 0 post (.ret (.agg (e.cellsD dnil))) H := fun e H h hd => .le (.ret (.agg (leL_dnil e))) (LeH.refl _) (by have := fin e H h; unfold Eff.av Eff.cells at this; rwa [hd] at this)
  have ha : 0 ≤ x.a ∧ x.a < 8 := ⟨hx.a0, by have := hx.a7; omega⟩
  have ha19 : x.a.toNat + 1 ≤ 19 := by omega
  have hat := r.at hx.a0 hx.a7
  obtain ⟨op, xa, xb, imm⟩ := x
  simp only at ho ha ha19 hat
  subst ho
  simp only [go_sem,Nat.reduceAdd,Nat.reduceSub,Nat.reduceMul,Nat.reduceEqDiff,Nat.reduceLeDiff,Nat.reduceLT,↓reduceIte,Int.reduceToNat,reduceCtorEq,Int.reduceLT,Int.reduceLE,Int.reduceGT,Int.reduceGE,Int.reduceEq,Int.reduceNe,Int.reduceNeg,Int.reduceAdd,Int.reduceSub,Ins.av,Ins.cells,Sp.av,Rg.av,Rg.cells,Eff.cellsD,ha,ha19,hat,wr0 ha.1 ha.2]
  refine draw [.qu 0 0, .qu 0 0, .qu 0 0, .qu 0 0, .qu 0 0, .qu 0 0, .qu 0 0, .qu 0 0, .qu 0 0, .mn 0] (by kernel_rfl) (by kernel_rfl) ?_
  simp only [go_sem,Nat.reduceAdd,Nat.reduceSub,Nat.reduceMul,Nat.reduceEqDiff,Nat.reduceLeDiff,Nat.reduceLT,↓reduceIte,Int.reduceToNat,reduceCtorEq,Int.reduceLT,Int.reduceLE,Int.reduceGT,Int.reduceGE,Int.reduceEq,Int.reduceNe,Int.reduceNeg,Int.reduceAdd,Int.reduceSub,Ins.av,Ins.cells,Sp.av,Rg.av,Rg.cells,Eff.cellsD,ha,ha19,hat,wr0 ha.1 ha.2]
  refine y_call (enters_of Tryz.func116 rfl (by decide)) (fun _ => ACalls.pure_use (Bytes_c (r.get xa) n hn) rfl (by simp [AV.lt])) ?_
  simp only [go_sem,Nat.reduceAdd,Nat.reduceSub,Nat.reduceMul,Nat.reduceEqDiff,Nat.reduceLeDiff,Nat.reduceLT,↓reduceIte,Int.reduceToNat,reduceCtorEq,Int.reduceLT,Int.reduceLE,Int.reduceGT,Int.reduceGE,Int.reduceEq,Int.reduceNe,Int.reduceNeg,Int.reduceAdd,Int.reduceSub,Ins.av,Ins.cells,Sp.av,Rg.av,Rg.cells,Eff.cellsD,ha,ha19,hat,wr0 ha.1 ha.2]
  exact fin (m2 o q (stL n (r.get xa))) _ rfl
theorem mem20_c (x : Ins) (hx : x.ok) (ho : x.op = 20) (s : Sp) (hs : s.ok) (r : Rg) (next q : Int) (n : Nat) (hn : n ≤ 8) (w : Bool) (o : Eff) (hd : o.data = []) :
    ACalls Tryz.prog 92 [x.av, s.av, r.av, iv next, .agg [iv q, iv n, .bool w], .agg (o.cellsD dnil)] [] (fun u H => u = .ret (m2 o q (stL n (r.get x.a))).av ∧ H = []) := by
  refine ACalls.up ?_
  refine ACalls.intro (cs := []) (n := 140) Tryz.func92 rfl rfl rfl (by kernel_rfl) rfl ?_
  generalize hpost : (fun (u : Out) (H : Heap) => u = Out.ret (m2 o q (stL n (r.get x.a))).av ∧ H = []) = post
  have fin : ∀ (e : Eff) H, e = m2 o q (stL n (r.get x.a)) → Up 0 post (.ret e.av) H := fun e H h => finv (Eff.av_lt e 0) (by rw [← hpost, ← h]; exact ⟨rfl, rfl⟩) H
  have finN : ∀ (e : Eff) H, e = m2 o q (stL n (r.get x.a)) → e.data = [] → Up 0 post (.ret (.agg (e.cellsD dnil))) H := fun e H h hd => .le (.ret (.agg (leL_dnil e))) (LeH.refl _) (by have := fin e H h; unfold Eff.av Eff.cells at this; rwa [hd] at this)
  have ha : 0 ≤ x.a ∧ x.a < 8 := ⟨hx.a0, by have := hx.a7; omega⟩
  have ha19 : x.a.toNat + 1 ≤ 19 := by omega
  have hat := r.at hx.a0 hx.a7
  obtain ⟨op, xa, xb, imm⟩ := x
  simp only at ho ha ha19 hat
  subst ho
  simp only [go_sem,Nat.reduceAdd,Nat.reduceSub,Nat.reduceMul,Nat.reduceEqDiff,Nat.reduceLeDiff,Nat.reduceLT,↓reduceIte,Int.reduceToNat,reduceCtorEq,Int.reduceLT,Int.reduceLE,Int.reduceGT,Int.reduceGE,Int.reduceEq,Int.reduceNe,Int.reduceNeg,Int.reduceAdd,Int.reduceSub,Ins.av,Ins.cells,Sp.av,Rg.av,Rg.cells,Eff.cellsD,ha,ha19,hat,wr0 ha.1 ha.2]
  refine draw [.qu 0 0, .qu 0 0, .qu 0 0, .qu 0 0, .qu 0 0, .qu 0 0, .qu 0 0, .qu 0 0, .qu 0 0, .mn 0] (by kernel_rfl) (by kernel_rfl) ?_
  simp only [go_sem,Nat.reduceAdd,Nat.reduceSub,Nat.reduceMul,Nat.reduceEqDiff,Nat.reduceLeDiff,Nat.reduceLT,↓reduceIte,Int.reduceToNat,reduceCtorEq,Int.reduceLT,Int.reduceLE,Int.reduceGT,Int.reduceGE,Int.reduceEq,Int.reduceNe,Int.reduceNeg,Int.reduceAdd,Int.reduceSub,Ins.av,Ins.cells,Sp.av,Rg.av,Rg.cells,Eff.cellsD,ha,ha19,hat,wr0 ha.1 ha.2]
  refine y_call (enters_of Tryz.func116 rfl (by decide)) (fun _ => ACalls.pure_use (Bytes_c (r.get xa) n hn) rfl (by simp [AV.lt])) ?_
  simp only [go_sem,Nat.reduceAdd,Nat.reduceSub,Nat.reduceMul,Nat.reduceEqDiff,Nat.reduceLeDiff,Nat.reduceLT,↓reduceIte,Int.reduceToNat,reduceCtorEq,Int.reduceLT,Int.reduceLE,Int.reduceGT,Int.reduceGE,Int.reduceEq,Int.reduceNe,Int.reduceNeg,Int.reduceAdd,Int.reduceSub,Ins.av,Ins.cells,Sp.av,Rg.av,Rg.cells,Eff.cellsD,ha,ha19,hat,wr0 ha.1 ha.2]
  exact fin (m2 o q (stL n (r.get xa))) _ rfl
theorem mem27_c (x : Ins) (hx : x.ok) (ho : x.op = 27) (s : Sp) (hs : s.ok) (r : Rg) (next q : Int) (n : Nat) (hn : n ≤ 8) (w : Bool) (o : Eff) (hd : o.data = []) :
    ACalls Tryz.prog 92 [x.av, s.av, r.av, iv next, .agg [iv q, iv n, .bool w], .agg (o.cellsD dnil)] [] (fun u H => u = .ret (m7 (m2 o q (stL 8 next)) q).av ∧ H = []) := by
  refine ACalls.up ?_
  refine ACalls.intro (cs := []) (n := 140) Tryz.func92 rfl rfl rfl (by kernel_rfl) rfl ?_
  generalize hpost : (fun (u : Out) (H : Heap) => u = Out.ret (m7 (m2 o q (stL 8 next)) q).av ∧ H = []) = post
  have fin : ∀ (e : Eff) H, e = m7 (m2 o q (stL 8 next)) q → Up 0 post (.ret e.av) H := fun e H h => finv (Eff.av_lt e 0) (by rw [← hpost, ← h]; exact ⟨rfl, rfl⟩) H
  have finN : ∀ (e : Eff) H, e = m7 (m2 o q (stL 8 next)) q → e.data = [] → Up 0 post (.ret (.agg (e.cellsD dnil))) H := fun e H h hd => .le (.ret (.agg (leL_dnil e))) (LeH.refl _) (by have := fin e H h; unfold Eff.av Eff.cells at this; rwa [hd] at this)
  have ha : 0 ≤ x.a ∧ x.a < 8 := ⟨hx.a0, by have := hx.a7; omega⟩
  have ha19 : x.a.toNat + 1 ≤ 19 := by omega
  have hat := r.at hx.a0 hx.a7
  obtain ⟨op, xa, xb, imm⟩ := x
  simp only at ho ha ha19 hat
  subst ho
  simp only [go_sem,Nat.reduceAdd,Nat.reduceSub,Nat.reduceMul,Nat.reduceEqDiff,Nat.reduceLeDiff,Nat.reduceLT,↓reduceIte,Int.reduceToNat,reduceCtorEq,Int.reduceLT,Int.reduceLE,Int.reduceGT,Int.reduceGE,Int.reduceEq,Int.reduceNe,Int.reduceNeg,Int.reduceAdd,Int.reduceSub,Ins.av,Ins.cells,Sp.av,Rg.av,Rg.cells,Eff.cellsD,ha,ha19,hat,wr0 ha.1 ha.2]
  refine rK_use (enters_of Tryz.func116 rfl (by decide)) (ACalls.pure_use (Bytes_c next 8 (by decide)) rfl (by simp [AV.lt])) ?_
  simp only [go_sem,Nat.reduceAdd,Nat.reduceSub,Nat.reduceMul,Nat.reduceEqDiff,Nat.reduceLeDiff,Nat.reduceLT,↓reduceIte,Int.reduceToNat,reduceCtorEq,Int.reduceLT,Int.reduceLE,Int.reduceGT,Int.reduceGE,Int.reduceEq,Int.reduceNe,Int.reduceNeg,Int.reduceAdd,Int.reduceSub,Ins.av,Ins.cells,Sp.av,Rg.av,Rg.cells,Eff.cellsD,ha,ha19,hat,wr0 ha.1 ha.2]
  exact fin (m7 (m2 o q (stL 8 next)) q) _ rfl
theorem mem28_c (x : Ins) (hx : x.ok) (ho : x.op = 28) (s : Sp) (hs : s.ok) (r : Rg) (next q : Int) (n : Nat) (hn : n ≤ 8) (w : Bool) (o : Eff) (hd : o.data = []) :
    ACalls Tryz.prog 92 [x.av, s.av, r.av, iv next, .agg [iv q, iv n, .bool w], .agg (o.cellsD dnil)] [] (fun u H => u = .ret (mp (m7 (m2 o q (stL 8 next)) q) (r.get x.a)).av ∧ H = []) := by
  refine ACalls.up ?_
  refine ACalls.intro (cs := []) (n := 140) Tryz.func92 rfl rfl rfl (by kernel_rfl) rfl ?_
  generalize hpost : (fun (u : Out) (H : Heap) => u = Out.ret (mp (m7 (m2 o q (stL 8 next)) q) (r.get x.a)).av ∧ H = []) = post
  have fin : ∀ (e : Eff) H, e = mp (m7 (m2 o q (stL 8 next)) q) (r.get x.a) → Up 0 post (.ret e.av) H := fun e H h => finv (Eff.av_lt e 0) (by rw [← hpost, ← h]; exact ⟨rfl, rfl⟩) H
  have finN : ∀ (e : Eff) H, e = mp (m7 (m2 o q (stL 8 next)) q) (r.get x.a) → e.data = [] → Up 0 post (.ret (.agg (e.cellsD dnil))) H := fun e H h hd => .le (.ret (.agg (leL_dnil e))) (LeH.refl _) (by have := fin e H h; unfold Eff.av Eff.cells at this; rwa [hd] at this)
  have ha : 0 ≤ x.a ∧ x.a < 8 := ⟨hx.a0, by have := hx.a7; omega⟩
  have ha19 : x.a.toNat + 1 ≤ 19 := by omega
  have hat := r.at hx.a0 hx.a7
  obtain ⟨op, xa, xb, imm⟩ := x
  simp only at ho ha ha19 hat
  subst ho
  simp only [go_sem,Nat.reduceAdd,Nat.reduceSub,Nat.reduceMul,Nat.reduceEqDiff,Nat.reduceLeDiff,Nat.reduceLT,↓reduceIte,Int.reduceToNat,reduceCtorEq,Int.reduceLT,Int.reduceLE,Int.reduceGT,Int.reduceGE,Int.reduceEq,Int.reduceNe,Int.reduceNeg,Int.reduceAdd,Int.reduceSub,Ins.av,Ins.cells,Sp.av,Rg.av,Rg.cells,Eff.cellsD,ha,ha19,hat,wr0 ha.1 ha.2]
  refine rK_use (enters_of Tryz.func116 rfl (by decide)) (ACalls.pure_use (Bytes_c next 8 (by decide)) rfl (by simp [AV.lt])) ?_
  simp only [go_sem,Nat.reduceAdd,Nat.reduceSub,Nat.reduceMul,Nat.reduceEqDiff,Nat.reduceLeDiff,Nat.reduceLT,↓reduceIte,Int.reduceToNat,reduceCtorEq,Int.reduceLT,Int.reduceLE,Int.reduceGT,Int.reduceGE,Int.reduceEq,Int.reduceNe,Int.reduceNeg,Int.reduceAdd,Int.reduceSub,Ins.av,Ins.cells,Sp.av,Rg.av,Rg.cells,Eff.cellsD,ha,ha19,hat,wr0 ha.1 ha.2]
  exact fin (mp (m7 (m2 o q (stL 8 next)) q) (r.get xa)) _ rfl
theorem mem30_c (x : Ins) (hx : x.ok) (ho : x.op = 30) (s : Sp) (hs : s.ok) (r : Rg) (next q : Int) (n : Nat) (hn : n ≤ 8) (w : Bool) (o : Eff) (hd : o.data = []) :
    ACalls Tryz.prog 92 [x.av, s.av, r.av, iv next, .agg [iv q, iv n, .bool w], .agg (o.cellsD dnil)] [] (fun u H => u = .ret (m7 (m2 o q (stL 8 (r.get x.a))) q).av ∧ H = []) := by
  refine ACalls.up ?_
  refine ACalls.intro (cs := []) (n := 140) Tryz.func92 rfl rfl rfl (by kernel_rfl) rfl ?_
  generalize hpost : (fun (u : Out) (H : Heap) => u = Out.ret (m7 (m2 o q (stL 8 (r.get x.a))) q).av ∧ H = []) = post
  have fin : ∀ (e : Eff) H, e = m7 (m2 o q (stL 8 (r.get x.a))) q → Up 0 post (.ret e.av) H := fun e H h => finv (Eff.av_lt e 0) (by rw [← hpost, ← h]; exact ⟨rfl, rfl⟩) H
  have finN : ∀ (e : Eff) H, e = m7 (m2 o q (stL 8 (r.get x.a))) q → e.data = [] → Up 0 post (.ret (.agg (e.cellsD dnil))) H := fun e H h hd => .le (.ret (.agg (leL_dnil e))) (LeH.refl _) (by have := fin e H h; unfold Eff.av Eff.cells at this; rwa [hd] at this)
  have ha : 0 ≤ x.a ∧ x.a < 8 := ⟨hx.a0, by have := hx.a7; omega⟩
  have ha19 : x.a.toNat + 1 ≤ 19 := by omega
  have hat := r.at hx.a0 hx.a7
  obtain ⟨op, xa, xb, imm⟩ := x
  simp only at ho ha ha19 hat
  subst ho
  simp only [go_sem,Nat.reduceAdd,Nat.reduceSub,Nat.reduceMul,Nat.reduceEqDiff,Nat.reduceLeDiff,Nat.reduceLT,↓reduceIte,Int.reduceToNat,reduceCtorEq,Int.reduceLT,Int.reduceLE,Int.reduceGT,Int.reduceGE,Int.reduceEq,Int.reduceNe,Int.reduceNeg,Int.reduceAdd,Int.reduceSub,Ins.av,Ins.cells,Sp.av,Rg.av,Rg.cells,Eff.cellsD,ha,ha19,hat,wr0 ha.1 ha.2]
  refine rK_use (enters_of Tryz.func116 rfl (by decide)) (ACalls.pure_use (Bytes_c (r.get xa) 8 (by decide)) rfl (by simp [AV.lt])) ?_
  simp only [go_sem,Nat.reduceAdd,Nat.reduceSub,Nat.reduceMul,Nat.reduceEqDiff,Nat.reduceLeDiff,Nat.reduceLT,↓reduceIte,Int.reduceToNat,reduceCtorEq,Int.reduceLT,Int.reduceLE,Int.reduceGT,Int.reduceGE,Int.reduceEq,Int.reduceNe,Int.reduceNeg,Int.reduceAdd,Int.reduceSub,Ins.av,Ins.cells,Sp.av,Rg.av,Rg.cells,Eff.cellsD,ha,ha19,hat,wr0 ha.1 ha.2]
  exact fin (m7 (m2 o q (stL 8 (r.get xa))) q) _ rfl
theorem mem29_c (x : Ins) (hx : x.ok) (ho : x.op = 29) (s : Sp) (hs : s.ok) (r : Rg) (next q : Int) (n : Nat) (hn : n ≤ 8) (h0 : 0 ≤ q) (h1 : q + (8 : Nat) ≤ s.byt.length) (w : Bool) (o : Eff) (hd : o.data = []) :
    ACalls Tryz.prog 92 [x.av, s.av, r.av, iv next, .agg [iv q, iv n, .bool w], .agg (o.cellsD dnil)] [] (fun u H => u = .ret (m7 (mp o (rdL (s.sub q 8))) (iw .i64 (r.r7 + 8))).av ∧ H = []) := by
  refine ACalls.up ?_
  refine ACalls.intro (cs := []) (n := 140) Tryz.func92 rfl rfl rfl (by kernel_rfl) rfl ?_
  generalize hpost : (fun (u : Out) (H : Heap) => u = Out.ret (m7 (mp o (rdL (s.sub q 8))) (iw .i64 (r.r7 + 8))).av ∧ H = []) = post
  have fin : ∀ (e : Eff) H, e = m7 (mp o (rdL (s.sub q 8))) (iw .i64 (r.r7 + 8)) → Up 0 post (.ret e.av) H := fun e H h => finv (Eff.av_lt e 0) (by rw [← hpost, ← h]; exact ⟨rfl, rfl⟩) H
  have finN : ∀ (e : Eff) H, e = m7 (mp o (rdL (s.sub q 8))) (iw .i64 (r.r7 + 8)) → e.data = [] → Up 0 post (.ret (.agg (e.cellsD dnil))) H := fun e H h hd => .le (.ret (.agg (leL_dnil e))) (LeH.refl _) (by have := fin e H h; unfold Eff.av Eff.cells at this; rwa [hd] at this)
  have ha : 0 ≤ x.a ∧ x.a < 8 := ⟨hx.a0, by have := hx.a7; omega⟩
  have ha19 : x.a.toNat + 1 ≤ 19 := by omega
  have hat := r.at hx.a0 hx.a7
  obtain ⟨op, xa, xb, imm⟩ := x
  simp only at ho ha ha19 hat
  subst ho
  simp only [go_sem,Nat.reduceAdd,Nat.reduceSub,Nat.reduceMul,Nat.reduceEqDiff,Nat.reduceLeDiff,Nat.reduceLT,↓reduceIte,Int.reduceToNat,reduceCtorEq,Int.reduceLT,Int.reduceLE,Int.reduceGT,Int.reduceGE,Int.reduceEq,Int.reduceNe,Int.reduceNeg,Int.reduceAdd,Int.reduceSub,Ins.av,Ins.cells,Sp.av,Rg.av,Rg.cells,Eff.cellsD,ha,ha19,hat,wr0 ha.1 ha.2]
  refine rK_use (enters_of Tryz.func115 rfl (by decide)) (ACalls.pure_use (read_c s hs q 8 (by decide) h0 h1) rfl rfl) ?_
  simp only [go_sem,Nat.reduceAdd,Nat.reduceSub,Nat.reduceMul,Nat.reduceEqDiff,Nat.reduceLeDiff,Nat.reduceLT,↓reduceIte,Int.reduceToNat,reduceCtorEq,Int.reduceLT,Int.reduceLE,Int.reduceGT,Int.reduceGE,Int.reduceEq,Int.reduceNe,Int.reduceNeg,Int.reduceAdd,Int.reduceSub,Ins.av,Ins.cells,Sp.av,Rg.av,Rg.cells,Eff.cellsD,ha,ha19,hat,wr0 ha.1 ha.2]
  exact finN (m7 (mp o (rdL (s.sub q 8))) (iw .i64 (r.r7 + 8))) _ rfl hd
theorem mem31_c (x : Ins) (hx : x.ok) (ho : x.op = 31) (s : Sp) (hs : s.ok) (r : Rg) (next q : Int) (n : Nat) (hn : n ≤ 8) (h0 : 0 ≤ q) (h1 : q + (8 : Nat) ≤ s.byt.length) (w : Bool) (o : Eff) (hd : o.data = []) :
    ACalls Tryz.prog 92 [x.av, s.av, r.av, iv next, .agg [iv q, iv n, .bool w], .agg (o.cellsD dnil)] [] (fun u H => u = .ret (m1 (m7 o (iw .i64 (r.r7 + 8))) x.a (rdL (s.sub q 8))).av ∧ H = []) := by
  refine ACalls.up ?_
  refine ACalls.intro (cs := []) (n := 140) Tryz.func92 rfl rfl rfl (by kernel_rfl) rfl ?_
  generalize hpost : (fun (u : Out) (H : Heap) => u = Out.ret (m1 (m7 o (iw .i64 (r.r7 + 8))) x.a (rdL (s.sub q 8))).av ∧ H = []) = post
  have fin : ∀ (e : Eff) H, e = m1 (m7 o (iw .i64 (r.r7 + 8))) x.a (rdL (s.sub q 8)) → Up 0 post (.ret e.av) H := fun e H h => finv (Eff.av_lt e 0) (by rw [← hpost, ← h]; exact ⟨rfl, rfl⟩) H
  have finN : ∀ (e : Eff) H, e = m1 (m7 o (iw .i64 (r.r7 + 8))) x.a (rdL (s.sub q 8)) → e.data = [] → Up 0 post (.ret (.agg (e.cellsD dnil))) H := fun e H h hd => .le (.ret (.agg (leL_dnil e))) (LeH.refl _) (by have := fin e H h; unfold Eff.av Eff.cells at this; rwa [hd] at this)
  have ha : 0 ≤ x.a ∧ x.a < 8 := ⟨hx.a0, by have := hx.a7; omega⟩
  have ha19 : x.a.toNat + 1 ≤ 19 := by omega
  have hat := r.at hx.a0 hx.a7
  obtain ⟨op, xa, xb, imm⟩ := x
  simp only at ho ha ha19 hat
  subst ho
  simp only [go_sem,Nat.reduceAdd,Nat.reduceSub,Nat.reduceMul,Nat.reduceEqDiff,Nat.reduceLeDiff,Nat.reduceLT,↓reduceIte,Int.reduceToNat,reduceCtorEq,Int.reduceLT,Int.reduceLE,Int.reduceGT,Int.reduceGE,Int.reduceEq,Int.reduceNe,Int.reduceNeg,Int.reduceAdd,Int.reduceSub,Ins.av,Ins.cells,Sp.av,Rg.av,Rg.cells,Eff.cellsD,ha,ha19,hat,wr0 ha.1 ha.2]
  refine draw [.qu 0 0, .qu 0 0, .qu 0 0, .qu 0 0, .qu 0 0, .qu 0 0, .qu 0 0, .qu 0 0, .qu 0 0, .mn 0] (by kernel_rfl) (by kernel_rfl) ?_
  simp only [go_sem,Nat.reduceAdd,Nat.reduceSub,Nat.reduceMul,Nat.reduceEqDiff,Nat.reduceLeDiff,Nat.reduceLT,↓reduceIte,Int.reduceToNat,reduceCtorEq,Int.reduceLT,Int.reduceLE,Int.reduceGT,Int.reduceGE,Int.reduceEq,Int.reduceNe,Int.reduceNeg,Int.reduceAdd,Int.reduceSub,Ins.av,Ins.cells,Sp.av,Rg.av,Rg.cells,Eff.cellsD,ha,ha19,hat,wr0 ha.1 ha.2]
  refine y_call (enters_of Tryz.func115 rfl (by decide)) (fun _ => ACalls.pure_use (read_c s hs q 8 (by decide) h0 h1) rfl rfl) ?_
  simp only [go_sem,Nat.reduceAdd,Nat.reduceSub,Nat.reduceMul,Nat.reduceEqDiff,Nat.reduceLeDiff,Nat.reduceLT,↓reduceIte,Int.reduceToNat,reduceCtorEq,Int.reduceLT,Int.reduceLE,Int.reduceGT,Int.reduceGE,Int.reduceEq,Int.reduceNe,Int.reduceNeg,Int.reduceAdd,Int.reduceSub,Ins.av,Ins.cells,Sp.av,Rg.av,Rg.cells,Eff.cellsD,ha,ha19,hat,wr0 ha.1 ha.2]
  exact finN (m1 (m7 o (iw .i64 (r.r7 + 8))) xa (rdL (s.sub q 8))) _ rfl hd
theorem mem34_c (x : Ins) (hx : x.ok) (ho : x.op = 34) (s : Sp) (hs : s.ok) (r : Rg) (next q : Int) (n : Nat) (hn : n ≤ 8) (h0 : 0 ≤ q) (h1 : q + (8 : Nat) ≤ s.byt.length) (w : Bool) (o : Eff) (hd : o.data = []) :
    ACalls Tryz.prog 92 [x.av, s.av, r.av, iv next, .agg [iv q, iv n, .bool w], .agg (o.cellsD dnil)] [] (fun u H => u = .ret (m1 (m2 o q (stL 8 (r.get x.a))) x.a (rdL (s.sub q 8))).av ∧ H = []) := by
  refine ACalls.up ?_
  refine ACalls.intro (cs := []) (n := 140) Tryz.func92 rfl rfl rfl (by kernel_rfl) rfl ?_
  generalize hpost : (fun (u : Out) (H : Heap) => u = Out.ret (m1 (m2 o q (stL 8 (r.get x.a))) x.a (rdL (s.sub q 8))).av ∧ H = []) = post
  have fin : ∀ (e : Eff) H, e = m1 (m2 o q (stL 8 (r.get x.a))) x.a (rdL (s.sub q 8)) → Up 0 post (.ret e.av) H := fun e H h => finv (Eff.av_lt e 0) (by rw [← hpost, ← h]; exact ⟨rfl, rfl⟩) H
  have finN : ∀ (e : Eff) H, e = m1 (m2 o q (stL 8 (r.get x.a))) x.a (rdL (s.sub q 8)) → e.data = [] → Up 0 post (.ret (.agg (e.cellsD dnil))) H := fun e H h hd => .le (.ret (.agg (leL_dnil e))) (LeH.refl _) (by have := fin e H h; unfold Eff.av Eff.cells at this; rwa [hd] at this)
  have ha : 0 ≤ x.a ∧ x.a < 8 := ⟨hx.a0, by have := hx.a7; omega⟩
  have ha19 : x.a.toNat + 1 ≤ 19 := by omega
  have hat := r.at hx.a0 hx.a7
  obtain ⟨op, xa, xb, imm⟩ := x
  simp only at ho ha ha19 hat
  subst ho
  simp only [go_sem,Nat.reduceAdd,Nat.reduceSub,Nat.reduceMul,Nat.reduceEqDiff,Nat.reduceLeDiff,Nat.reduceLT,↓reduceIte,Int.reduceToNat,reduceCtorEq,Int.reduceLT,Int.reduceLE,Int.reduceGT,Int.reduceGE,Int.reduceEq,Int.reduceNe,Int.reduceNeg,Int.reduceAdd,Int.reduceSub,Ins.av,Ins.cells,Sp.av,Rg.av,Rg.cells,Eff.cellsD,ha,ha19,hat,wr0 ha.1 ha.2]
  refine rK_use (enters_of Tryz.func116 rfl (by decide)) (ACalls.pure_use (Bytes_c (r.get xa) 8 (by decide)) rfl (by simp [AV.lt])) ?_
  simp only [go_sem,Nat.reduceAdd,Nat.reduceSub,Nat.reduceMul,Nat.reduceEqDiff,Nat.reduceLeDiff,Nat.reduceLT,↓reduceIte,Int.reduceToNat,reduceCtorEq,Int.reduceLT,Int.reduceLE,Int.reduceGT,Int.reduceGE,Int.reduceEq,Int.reduceNe,Int.reduceNeg,Int.reduceAdd,Int.reduceSub,Ins.av,Ins.cells,Sp.av,Rg.av,Rg.cells,Eff.cellsD,ha,ha19,hat,wr0 ha.1 ha.2]
  refine draw [.qu 0 0, .qu 0 0, .qu 0 0, .qu 0 0, .qu 0 0, .qu 0 0, .qu 0 0, .qu 0 0, .qu 0 0, .mn 0] (by kernel_rfl) (by kernel_rfl) ?_
  simp only [go_sem,Nat.reduceAdd,Nat.reduceSub,Nat.reduceMul,Nat.reduceEqDiff,Nat.reduceLeDiff,Nat.reduceLT,↓reduceIte,Int.reduceToNat,reduceCtorEq,Int.reduceLT,Int.reduceLE,Int.reduceGT,Int.reduceGE,Int.reduceEq,Int.reduceNe,Int.reduceNeg,Int.reduceAdd,Int.reduceSub,Ins.av,Ins.cells,Sp.av,Rg.av,Rg.cells,Eff.cellsD,ha,ha19,hat,wr0 ha.1 ha.2]
  refine y_call (enters_of Tryz.func115 rfl (by decide)) (fun _ => ACalls.pure_use (read_c s hs q 8 (by decide) h0 h1) rfl rfl) ?_
  simp only [go_sem,Nat.reduceAdd,Nat.reduceSub,Nat.reduceMul,Nat.reduceEqDiff,Nat.reduceLeDiff,Nat.reduceLT,↓reduceIte,Int.reduceToNat,reduceCtorEq,Int.reduceLT,Int.reduceLE,Int.reduceGT,Int.reduceGE,Int.reduceEq,Int.reduceNe,Int.reduceNeg,Int.reduceAdd,Int.reduceSub,Ins.av,Ins.cells,Sp.av,Rg.av,Rg.cells,Eff.cellsD,ha,ha19,hat,wr0 ha.1 ha.2]
  exact fin (m1 (m2 o q (stL 8 (r.get xa))) xa (rdL (s.sub q 8))) _ rfl
end Go.Proofs.YtfiflailjbmlpaaGreatDoor
set_option maxRecDepth 100000
set_option linter.unusedVariables false
set_option linter.unusedSimpArgs false
namespace Go.Proofs.YtfiflailjbmlpaaGreatDoor
open Go.AM
theorem reff_ok {x : Ins} {s : Sp} {r : Rg} (hf : (ffault s (foot x r)).kind = 0) : effect x s r =
    (if isAlu x.op = true then (match alu x.op (r.get x.a) (r.get x.b) with
    | none => .tr ⟨5, 0, ⟨0, 0⟩⟩ (Pr.p1 x s r)
    | some v => .ok ((Pr.p1 x s r).setA v) [])
  else if 21 ≤ x.op ∧ x.op ≤ 25 then .ok (if taken x r = true then (Pr.p1 x s r).toPc (iw .i64 ((Pr.p1 x s r).next + x.imm)) else Pr.p1 x s r) []
  else if x.op = 26 then .ok ((Pr.p1 x s r).toPc (r.get x.a)) []
  else tabR (Pr.p1 x s r)) := by
  unfold effect
  rw [if_neg (by simp [hf])]
  all_goals (cases alu x.op (r.get x.a) (r.get x.b) <;> rfl)
theorem rexec_f {x : Ins} {s : Sp} {r : Rg} (hf : ¬ (ffault s (foot x r)).kind = 0) : exec x s r = ⟨r, 0, [], ⟨3, 0, ffault s (foot x r)⟩, x⟩ := by
  unfold exec effect
  rw [if_pos hf]
  rfl
def o0 (x : Ins) (r : Rg) : Eff := ⟨{ r with pc := iw .i64 (r.pc + x.len) }, 0, [], ⟨0, 0, ⟨0, 0⟩⟩, x⟩
theorem in_foot {s : Sp} (hs : s.ok) {q p : Int} (hq : I64 q) {n : Nat} (h0 : 0 < n) (hn : n ≤ 8) (h : (s.flt q p n 0).kind = 0) : 0 ≤ q ∧ q + n ≤ s.byt.length := by
  have hl : s.byt.length ≤ 2048 := by have := hs.p32; have := hs.len; omega
  have := (flt_in hq hl n 0 (by omega) (by omega) (.inr rfl) h).resolve_left (by omega)
  omega
theorem rx5_c (x : Ins) (hx : x.ok) (ho : x.op = 5) (s : Sp) (hs : s.ok) (r : Rg) (hr : r.wf) (hf : (ffault s (foot x r)).kind = 0) :
    ACalls Tryz.prog 47 [x.av, s.av, r.av] [] (fun u H => u = .ret (exec x s r).av ∧ H = []) := by
  refine ACalls.up ?_
  refine ACalls.intro (cs := []) (n := 175) Tryz.func47 rfl rfl rfl (by kernel_rfl) rfl ?_
  generalize hpost : (fun (u : Out) (H : Heap) => u = Out.ret (exec x s r).av ∧ H = []) = post
  have fin : ∀ (e : Eff) H, e = exec x s r → Up 0 post (.ret e.av) H := fun e H h => finv (Eff.av_lt e 0) (by rw [← hpost, ← h]; exact ⟨rfl, rfl⟩) H
  have finN : ∀ (e : Eff) H, e = exec x s r → e.data = [] → Up 0 post (.ret (.agg (e.cellsD dnil))) H := fun e H h hd => .le (.ret (.agg (leL_dnil e))) (LeH.refl _) (by have := fin e H h; unfold Eff.av Eff.cells at this; rwa [hd] at this)
  have ha : 0 ≤ x.a ∧ x.a < 8 := ⟨hx.a0, by have := hx.a7; omega⟩
  have hb : 0 ≤ x.b ∧ x.b < 8 := ⟨hx.b0, by have := hx.b7; omega⟩
  have ha19 : x.a.toNat + 1 ≤ 19 := by omega
  have hata := r.at hx.a0 hx.a7
  have hatb := r.at hx.b0 hx.b7
  have hfa := ffault0 hf
  obtain ⟨op, xa, xb, imm⟩ := x
  simp only at ho ha hb ha19 hata hatb
  subst ho
  simp only [go_sem,Nat.reduceAdd,Nat.reduceSub,Nat.reduceEqDiff,Nat.reduceLT,Nat.reduceLeDiff,↓reduceIte,Int.reduceToNat,reduceCtorEq,Int.reduceLT,Int.reduceEq,Ins.av,Ins.cells,Sp.av,Rg.av,Rg.cells]
  refine draw [.qu 0 0, .qu 0 0, .qu 0 0, .qu 0 0, .qu 0 0, .qu 0 0] (by kernel_rfl) (by kernel_rfl) ?_
  simp only [go_sem,Nat.reduceAdd,Nat.reduceSub,Nat.reduceEqDiff,Nat.reduceLT,Nat.reduceLeDiff,↓reduceIte,Int.reduceToNat,reduceCtorEq,Int.reduceLT,Int.reduceEq]
  refine y_call (enters_of Tryz.func85 rfl (by decide)) (fun _ => ACalls.pure_use (rilen_c _ hx) rfl rfl) ?_
  simp only [go_sem,Nat.reduceAdd,Nat.reduceSub,Nat.reduceEqDiff,Nat.reduceLT,Nat.reduceLeDiff,↓reduceIte,Int.reduceToNat,reduceCtorEq,Int.reduceLT,Int.reduceEq]
  refine rK_use (enters_of Tryz.func86 rfl (by decide)) (ACalls.pure_use (rfootprint_c _ hx r hr) rfl rfl) ?_
  simp only [go_sem,Nat.reduceAdd,Nat.reduceSub,Nat.reduceEqDiff,Nat.reduceLT,Nat.reduceLeDiff,↓reduceIte,Int.reduceToNat,reduceCtorEq,Int.reduceLT,Int.reduceEq]
  refine rK_use (enters_of Tryz.func87 rfl (by decide)) (ACalls.pure_use (rFault_c s hs (foot ⟨5, xa, xb, imm⟩ r) (foot_len _ r) (foot_size _ r)) rfl rfl) ?_
  simp only [go_sem,Nat.reduceAdd,Nat.reduceSub,Nat.reduceEqDiff,Nat.reduceLT,Nat.reduceLeDiff,↓reduceIte,Int.reduceToNat,reduceCtorEq,Int.reduceLT,Int.reduceEq,Flt.cells,hf]
  refine rK_use (enters_of Tryz.func88 rfl (by decide)) (ACalls.pure_use (isAlu_c 5) rfl rfl) ?_
  rw [show isAlu 5 = true from rfl]
  have hA := ralu_c 5 (r.get xa) (r.get xb) (hr.get _)
  simp only [go_sem,Nat.reduceAdd,Nat.reduceSub,Nat.reduceEqDiff,Nat.reduceLT,Nat.reduceLeDiff,↓reduceIte,Int.reduceToNat,reduceCtorEq,Int.reduceLT,Int.reduceEq]
  refine draw [.qu 0 0, .qu 0 0, .qu 0 0, .qu 0 0, .qu 0 0, .qu 0 0, .qu 0 0, .qu 0 0, .qu 0 0, .qu 0 0, .qu 0 0, .qu 0 0, .qu 0 0, .qu 0 0, .qu 0 0, .qu 0 0, .qu 0 0, .qu 0 0] (by kernel_rfl) (by kernel_rfl) ?_
  simp only [go_sem,Nat.reduceAdd,Nat.reduceSub,Nat.reduceEqDiff,Nat.reduceLT,Nat.reduceLeDiff,↓reduceIte,Int.reduceToNat,reduceCtorEq,Int.reduceLT,Int.reduceEq,Ins.av,Ins.cells,Sp.av,Rg.av,Rg.cells,Eff.cellsD,ha,ha19,hb,hata,hatb,wr0 ha.1 ha.2,trE,Eff.av,Eff.cells]
  cases hal : alu 5 (r.get xa) (r.get xb) with
  | none =>
    rw [hal] at hA
    refine y_call (enters_of Tryz.func89 rfl (by decide)) (fun _ => ACalls.pure_use (hA) rfl rfl) ?_
    simp only [go_sem,Nat.reduceAdd,Nat.reduceSub,Nat.reduceEqDiff,Nat.reduceLT,Nat.reduceLeDiff,↓reduceIte,Int.reduceToNat,reduceCtorEq,Int.reduceLT,Int.reduceEq,Ins.av,Ins.cells,Sp.av,Rg.av,Rg.cells,Eff.cellsD,ha,ha19,hb,hata,hatb,wr0 ha.1 ha.2,trE,Eff.av,Eff.cells,aluV,Option.isSome_none]
    refine rK_use (enters_of Tryz.func84 rfl (by decide)) (ACalls.pure_use (trapped_c ⟨5, xa, xb, imm⟩ r ⟨5, 0, ⟨0, 0⟩⟩) rfl (by simp [AV.lt, ltL, Eff.av_lt])) ?_
    simp only [go_sem,Nat.reduceAdd,Nat.reduceSub,Nat.reduceEqDiff,Nat.reduceLT,Nat.reduceLeDiff,↓reduceIte,Int.reduceToNat,reduceCtorEq,Int.reduceLT,Int.reduceEq,Ins.av,Ins.cells,Sp.av,Rg.av,Rg.cells,Eff.cellsD,ha,ha19,hb,hata,hatb,wr0 ha.1 ha.2,trE,Eff.av,Eff.cells]
    exact fin (trE ⟨5, xa, xb, imm⟩ r ⟨5, 0, ⟨0, 0⟩⟩) _ (by unfold exec; rw [reff_ok hf]; simp [hal, isAlu, tabR, Res.eff, Pr.setA, Pr.toPc, Pr.p1, Pr.start, Pr.set7, o0, m1, m2, m7, mp, trE])
  | some v =>
    rw [hal] at hA
    refine y_call (enters_of Tryz.func89 rfl (by decide)) (fun _ => ACalls.pure_use (hA) rfl rfl) ?_
    simp only [go_sem,Nat.reduceAdd,Nat.reduceSub,Nat.reduceEqDiff,Nat.reduceLT,Nat.reduceLeDiff,↓reduceIte,Int.reduceToNat,reduceCtorEq,Int.reduceLT,Int.reduceEq,Ins.av,Ins.cells,Sp.av,Rg.av,Rg.cells,Eff.cellsD,ha,ha19,hb,hata,hatb,wr0 ha.1 ha.2,trE,Eff.av,Eff.cells,aluV,Option.isSome_some,Option.getD_some]
    exact finN (m1 (o0 ⟨5, xa, xb, imm⟩ r) xa v) _ (by unfold exec; rw [reff_ok hf]; simp [hal, isAlu, tabR, Res.eff, Pr.setA, Pr.toPc, Pr.p1, Pr.start, Pr.set7, o0, m1, m2, m7, mp, trE]) rfl
theorem rx6_c (x : Ins) (hx : x.ok) (ho : x.op = 6) (s : Sp) (hs : s.ok) (r : Rg) (hr : r.wf) (hf : (ffault s (foot x r)).kind = 0) :
    ACalls Tryz.prog 47 [x.av, s.av, r.av] [] (fun u H => u = .ret (exec x s r).av ∧ H = []) := by
  refine ACalls.up ?_
  refine ACalls.intro (cs := []) (n := 175) Tryz.func47 rfl rfl rfl (by kernel_rfl) rfl ?_
  generalize hpost : (fun (u : Out) (H : Heap) => u = Out.ret (exec x s r).av ∧ H = []) = post
  have fin : ∀ (e : Eff) H, e = exec x s r → Up 0 post (.ret e.av) H := fun e H h => finv (Eff.av_lt e 0) (by rw [← hpost, ← h]; exact ⟨rfl, rfl⟩) H
  have finN : ∀ (e : Eff) H, e = exec x s r → e.data = [] → Up 0 post (.ret (.agg (e.cellsD dnil))) H := fun e H h hd => .le (.ret (.agg (leL_dnil e))) (LeH.refl _) (by have := fin e H h; unfold Eff.av Eff.cells at this; rwa [hd] at this)
  have ha : 0 ≤ x.a ∧ x.a < 8 := ⟨hx.a0, by have := hx.a7; omega⟩
  have hb : 0 ≤ x.b ∧ x.b < 8 := ⟨hx.b0, by have := hx.b7; omega⟩
  have ha19 : x.a.toNat + 1 ≤ 19 := by omega
  have hata := r.at hx.a0 hx.a7
  have hatb := r.at hx.b0 hx.b7
  have hfa := ffault0 hf
  obtain ⟨op, xa, xb, imm⟩ := x
  simp only at ho ha hb ha19 hata hatb
  subst ho
  simp only [go_sem,Nat.reduceAdd,Nat.reduceSub,Nat.reduceEqDiff,Nat.reduceLT,Nat.reduceLeDiff,↓reduceIte,Int.reduceToNat,reduceCtorEq,Int.reduceLT,Int.reduceEq,Ins.av,Ins.cells,Sp.av,Rg.av,Rg.cells]
  refine draw [.qu 0 0, .qu 0 0, .qu 0 0, .qu 0 0, .qu 0 0, .qu 0 0] (by kernel_rfl) (by kernel_rfl) ?_
  simp only [go_sem,Nat.reduceAdd,Nat.reduceSub,Nat.reduceEqDiff,Nat.reduceLT,Nat.reduceLeDiff,↓reduceIte,Int.reduceToNat,reduceCtorEq,Int.reduceLT,Int.reduceEq]
  refine y_call (enters_of Tryz.func85 rfl (by decide)) (fun _ => ACalls.pure_use (rilen_c _ hx) rfl rfl) ?_
  simp only [go_sem,Nat.reduceAdd,Nat.reduceSub,Nat.reduceEqDiff,Nat.reduceLT,Nat.reduceLeDiff,↓reduceIte,Int.reduceToNat,reduceCtorEq,Int.reduceLT,Int.reduceEq]
  refine rK_use (enters_of Tryz.func86 rfl (by decide)) (ACalls.pure_use (rfootprint_c _ hx r hr) rfl rfl) ?_
  simp only [go_sem,Nat.reduceAdd,Nat.reduceSub,Nat.reduceEqDiff,Nat.reduceLT,Nat.reduceLeDiff,↓reduceIte,Int.reduceToNat,reduceCtorEq,Int.reduceLT,Int.reduceEq]
  refine rK_use (enters_of Tryz.func87 rfl (by decide)) (ACalls.pure_use (rFault_c s hs (foot ⟨6, xa, xb, imm⟩ r) (foot_len _ r) (foot_size _ r)) rfl rfl) ?_
  simp only [go_sem,Nat.reduceAdd,Nat.reduceSub,Nat.reduceEqDiff,Nat.reduceLT,Nat.reduceLeDiff,↓reduceIte,Int.reduceToNat,reduceCtorEq,Int.reduceLT,Int.reduceEq,Flt.cells,hf]
  refine rK_use (enters_of Tryz.func88 rfl (by decide)) (ACalls.pure_use (isAlu_c 6) rfl rfl) ?_
  rw [show isAlu 6 = true from rfl]
  have hA := ralu_c 6 (r.get xa) (r.get xb) (hr.get _)
  simp only [go_sem,Nat.reduceAdd,Nat.reduceSub,Nat.reduceEqDiff,Nat.reduceLT,Nat.reduceLeDiff,↓reduceIte,Int.reduceToNat,reduceCtorEq,Int.reduceLT,Int.reduceEq]
  refine draw [.qu 0 0, .qu 0 0, .qu 0 0, .qu 0 0, .qu 0 0, .qu 0 0, .qu 0 0, .qu 0 0, .qu 0 0, .qu 0 0, .qu 0 0, .qu 0 0, .qu 0 0, .qu 0 0, .qu 0 0, .qu 0 0, .qu 0 0, .qu 0 0] (by kernel_rfl) (by kernel_rfl) ?_
  simp only [go_sem,Nat.reduceAdd,Nat.reduceSub,Nat.reduceEqDiff,Nat.reduceLT,Nat.reduceLeDiff,↓reduceIte,Int.reduceToNat,reduceCtorEq,Int.reduceLT,Int.reduceEq,Ins.av,Ins.cells,Sp.av,Rg.av,Rg.cells,Eff.cellsD,ha,ha19,hb,hata,hatb,wr0 ha.1 ha.2,trE,Eff.av,Eff.cells]
  cases hal : alu 6 (r.get xa) (r.get xb) with
  | none =>
    rw [hal] at hA
    refine y_call (enters_of Tryz.func89 rfl (by decide)) (fun _ => ACalls.pure_use (hA) rfl rfl) ?_
    simp only [go_sem,Nat.reduceAdd,Nat.reduceSub,Nat.reduceEqDiff,Nat.reduceLT,Nat.reduceLeDiff,↓reduceIte,Int.reduceToNat,reduceCtorEq,Int.reduceLT,Int.reduceEq,Ins.av,Ins.cells,Sp.av,Rg.av,Rg.cells,Eff.cellsD,ha,ha19,hb,hata,hatb,wr0 ha.1 ha.2,trE,Eff.av,Eff.cells,aluV,Option.isSome_none]
    refine rK_use (enters_of Tryz.func84 rfl (by decide)) (ACalls.pure_use (trapped_c ⟨6, xa, xb, imm⟩ r ⟨5, 0, ⟨0, 0⟩⟩) rfl (by simp [AV.lt, ltL, Eff.av_lt])) ?_
    simp only [go_sem,Nat.reduceAdd,Nat.reduceSub,Nat.reduceEqDiff,Nat.reduceLT,Nat.reduceLeDiff,↓reduceIte,Int.reduceToNat,reduceCtorEq,Int.reduceLT,Int.reduceEq,Ins.av,Ins.cells,Sp.av,Rg.av,Rg.cells,Eff.cellsD,ha,ha19,hb,hata,hatb,wr0 ha.1 ha.2,trE,Eff.av,Eff.cells]
    exact fin (trE ⟨6, xa, xb, imm⟩ r ⟨5, 0, ⟨0, 0⟩⟩) _ (by unfold exec; rw [reff_ok hf]; simp [hal, isAlu, tabR, Res.eff, Pr.setA, Pr.toPc, Pr.p1, Pr.start, Pr.set7, o0, m1, m2, m7, mp, trE])
  | some v =>
    rw [hal] at hA
    refine y_call (enters_of Tryz.func89 rfl (by decide)) (fun _ => ACalls.pure_use (hA) rfl rfl) ?_
    simp only [go_sem,Nat.reduceAdd,Nat.reduceSub,Nat.reduceEqDiff,Nat.reduceLT,Nat.reduceLeDiff,↓reduceIte,Int.reduceToNat,reduceCtorEq,Int.reduceLT,Int.reduceEq,Ins.av,Ins.cells,Sp.av,Rg.av,Rg.cells,Eff.cellsD,ha,ha19,hb,hata,hatb,wr0 ha.1 ha.2,trE,Eff.av,Eff.cells,aluV,Option.isSome_some,Option.getD_some]
    exact finN (m1 (o0 ⟨6, xa, xb, imm⟩ r) xa v) _ (by unfold exec; rw [reff_ok hf]; simp [hal, isAlu, tabR, Res.eff, Pr.setA, Pr.toPc, Pr.p1, Pr.start, Pr.set7, o0, m1, m2, m7, mp, trE]) rfl
theorem rx7_c (x : Ins) (hx : x.ok) (ho : x.op = 7) (s : Sp) (hs : s.ok) (r : Rg) (hr : r.wf) (hf : (ffault s (foot x r)).kind = 0) :
    ACalls Tryz.prog 47 [x.av, s.av, r.av] [] (fun u H => u = .ret (exec x s r).av ∧ H = []) := by
  refine ACalls.up ?_
  refine ACalls.intro (cs := []) (n := 175) Tryz.func47 rfl rfl rfl (by kernel_rfl) rfl ?_
  generalize hpost : (fun (u : Out) (H : Heap) => u = Out.ret (exec x s r).av ∧ H = []) = post
  have fin : ∀ (e : Eff) H, e = exec x s r → Up 0 post (.ret e.av) H := fun e H h => finv (Eff.av_lt e 0) (by rw [← hpost, ← h]; exact ⟨rfl, rfl⟩) H
  have finN : ∀ (e : Eff) H, e = exec x s r → e.data = [] → Up 0 post (.ret (.agg (e.cellsD dnil))) H := fun e H h hd => .le (.ret (.agg (leL_dnil e))) (LeH.refl _) (by have := fin e H h; unfold Eff.av Eff.cells at this; rwa [hd] at this)
  have ha : 0 ≤ x.a ∧ x.a < 8 := ⟨hx.a0, by have := hx.a7; omega⟩
  have hb : 0 ≤ x.b ∧ x.b < 8 := ⟨hx.b0, by have := hx.b7; omega⟩
  have ha19 : x.a.toNat + 1 ≤ 19 := by omega
  have hata := r.at hx.a0 hx.a7
  have hatb := r.at hx.b0 hx.b7
  have hfa := ffault0 hf
  obtain ⟨op, xa, xb, imm⟩ := x
  simp only at ho ha hb ha19 hata hatb
  subst ho
  simp only [go_sem,Nat.reduceAdd,Nat.reduceSub,Nat.reduceEqDiff,Nat.reduceLT,Nat.reduceLeDiff,↓reduceIte,Int.reduceToNat,reduceCtorEq,Int.reduceLT,Int.reduceEq,Ins.av,Ins.cells,Sp.av,Rg.av,Rg.cells]
  refine draw [.qu 0 0, .qu 0 0, .qu 0 0, .qu 0 0, .qu 0 0, .qu 0 0] (by kernel_rfl) (by kernel_rfl) ?_
  simp only [go_sem,Nat.reduceAdd,Nat.reduceSub,Nat.reduceEqDiff,Nat.reduceLT,Nat.reduceLeDiff,↓reduceIte,Int.reduceToNat,reduceCtorEq,Int.reduceLT,Int.reduceEq]
  refine y_call (enters_of Tryz.func85 rfl (by decide)) (fun _ => ACalls.pure_use (rilen_c _ hx) rfl rfl) ?_
  simp only [go_sem,Nat.reduceAdd,Nat.reduceSub,Nat.reduceEqDiff,Nat.reduceLT,Nat.reduceLeDiff,↓reduceIte,Int.reduceToNat,reduceCtorEq,Int.reduceLT,Int.reduceEq]
  refine rK_use (enters_of Tryz.func86 rfl (by decide)) (ACalls.pure_use (rfootprint_c _ hx r hr) rfl rfl) ?_
  simp only [go_sem,Nat.reduceAdd,Nat.reduceSub,Nat.reduceEqDiff,Nat.reduceLT,Nat.reduceLeDiff,↓reduceIte,Int.reduceToNat,reduceCtorEq,Int.reduceLT,Int.reduceEq]
  refine rK_use (enters_of Tryz.func87 rfl (by decide)) (ACalls.pure_use (rFault_c s hs (foot ⟨7, xa, xb, imm⟩ r) (foot_len _ r) (foot_size _ r)) rfl rfl) ?_
  simp only [go_sem,Nat.reduceAdd,Nat.reduceSub,Nat.reduceEqDiff,Nat.reduceLT,Nat.reduceLeDiff,↓reduceIte,Int.reduceToNat,reduceCtorEq,Int.reduceLT,Int.reduceEq,Flt.cells,hf]
  refine rK_use (enters_of Tryz.func88 rfl (by decide)) (ACalls.pure_use (isAlu_c 7) rfl rfl) ?_
  rw [show isAlu 7 = true from rfl]
  have hA := ralu_c 7 (r.get xa) (r.get xb) (hr.get _)
  simp only [go_sem,Nat.reduceAdd,Nat.reduceSub,Nat.reduceEqDiff,Nat.reduceLT,Nat.reduceLeDiff,↓reduceIte,Int.reduceToNat,reduceCtorEq,Int.reduceLT,Int.reduceEq]
  refine draw [.qu 0 0, .qu 0 0, .qu 0 0, .qu 0 0, .qu 0 0, .qu 0 0, .qu 0 0, .qu 0 0, .qu 0 0, .qu 0 0, .qu 0 0, .qu 0 0, .qu 0 0, .qu 0 0, .qu 0 0, .qu 0 0, .qu 0 0, .qu 0 0] (by kernel_rfl) (by kernel_rfl) ?_
  simp only [go_sem,Nat.reduceAdd,Nat.reduceSub,Nat.reduceEqDiff,Nat.reduceLT,Nat.reduceLeDiff,↓reduceIte,Int.reduceToNat,reduceCtorEq,Int.reduceLT,Int.reduceEq,Ins.av,Ins.cells,Sp.av,Rg.av,Rg.cells,Eff.cellsD,ha,ha19,hb,hata,hatb,wr0 ha.1 ha.2,trE,Eff.av,Eff.cells]
  cases hal : alu 7 (r.get xa) (r.get xb) with
  | none =>
    rw [hal] at hA
    refine y_call (enters_of Tryz.func89 rfl (by decide)) (fun _ => ACalls.pure_use (hA) rfl rfl) ?_
    simp only [go_sem,Nat.reduceAdd,Nat.reduceSub,Nat.reduceEqDiff,Nat.reduceLT,Nat.reduceLeDiff,↓reduceIte,Int.reduceToNat,reduceCtorEq,Int.reduceLT,Int.reduceEq,Ins.av,Ins.cells,Sp.av,Rg.av,Rg.cells,Eff.cellsD,ha,ha19,hb,hata,hatb,wr0 ha.1 ha.2,trE,Eff.av,Eff.cells,aluV,Option.isSome_none]
    refine rK_use (enters_of Tryz.func84 rfl (by decide)) (ACalls.pure_use (trapped_c ⟨7, xa, xb, imm⟩ r ⟨5, 0, ⟨0, 0⟩⟩) rfl (by simp [AV.lt, ltL, Eff.av_lt])) ?_
    simp only [go_sem,Nat.reduceAdd,Nat.reduceSub,Nat.reduceEqDiff,Nat.reduceLT,Nat.reduceLeDiff,↓reduceIte,Int.reduceToNat,reduceCtorEq,Int.reduceLT,Int.reduceEq,Ins.av,Ins.cells,Sp.av,Rg.av,Rg.cells,Eff.cellsD,ha,ha19,hb,hata,hatb,wr0 ha.1 ha.2,trE,Eff.av,Eff.cells]
    exact fin (trE ⟨7, xa, xb, imm⟩ r ⟨5, 0, ⟨0, 0⟩⟩) _ (by unfold exec; rw [reff_ok hf]; simp [hal, isAlu, tabR, Res.eff, Pr.setA, Pr.toPc, Pr.p1, Pr.start, Pr.set7, o0, m1, m2, m7, mp, trE])
  | some v =>
    rw [hal] at hA
    refine y_call (enters_of Tryz.func89 rfl (by decide)) (fun _ => ACalls.pure_use (hA) rfl rfl) ?_
    simp only [go_sem,Nat.reduceAdd,Nat.reduceSub,Nat.reduceEqDiff,Nat.reduceLT,Nat.reduceLeDiff,↓reduceIte,Int.reduceToNat,reduceCtorEq,Int.reduceLT,Int.reduceEq,Ins.av,Ins.cells,Sp.av,Rg.av,Rg.cells,Eff.cellsD,ha,ha19,hb,hata,hatb,wr0 ha.1 ha.2,trE,Eff.av,Eff.cells,aluV,Option.isSome_some,Option.getD_some]
    exact finN (m1 (o0 ⟨7, xa, xb, imm⟩ r) xa v) _ (by unfold exec; rw [reff_ok hf]; simp [hal, isAlu, tabR, Res.eff, Pr.setA, Pr.toPc, Pr.p1, Pr.start, Pr.set7, o0, m1, m2, m7, mp, trE]) rfl
theorem rx8_c (x : Ins) (hx : x.ok) (ho : x.op = 8) (s : Sp) (hs : s.ok) (r : Rg) (hr : r.wf) (hf : (ffault s (foot x r)).kind = 0) :
    ACalls Tryz.prog 47 [x.av, s.av, r.av] [] (fun u H => u = .ret (exec x s r).av ∧ H = []) := by
  refine ACalls.up ?_
  refine ACalls.intro (cs := []) (n := 175) Tryz.func47 rfl rfl rfl (by kernel_rfl) rfl ?_
  generalize hpost : (fun (u : Out) (H : Heap) => u = Out.ret (exec x s r).av ∧ H = []) = post
  have fin : ∀ (e : Eff) H, e = exec x s r → Up 0 post (.ret e.av) H := fun e H h => finv (Eff.av_lt e 0) (by rw [← hpost, ← h]; exact ⟨rfl, rfl⟩) H
  have finN : ∀ (e : Eff) H, e = exec x s r → e.data = [] → Up 0 post (.ret (.agg (e.cellsD dnil))) H := fun e H h hd => .le (.ret (.agg (leL_dnil e))) (LeH.refl _) (by have := fin e H h; unfold Eff.av Eff.cells at this; rwa [hd] at this)
  have ha : 0 ≤ x.a ∧ x.a < 8 := ⟨hx.a0, by have := hx.a7; omega⟩
  have hb : 0 ≤ x.b ∧ x.b < 8 := ⟨hx.b0, by have := hx.b7; omega⟩
  have ha19 : x.a.toNat + 1 ≤ 19 := by omega
  have hata := r.at hx.a0 hx.a7
  have hatb := r.at hx.b0 hx.b7
  have hfa := ffault0 hf
  obtain ⟨op, xa, xb, imm⟩ := x
  simp only at ho ha hb ha19 hata hatb
  subst ho
  simp only [go_sem,Nat.reduceAdd,Nat.reduceSub,Nat.reduceEqDiff,Nat.reduceLT,Nat.reduceLeDiff,↓reduceIte,Int.reduceToNat,reduceCtorEq,Int.reduceLT,Int.reduceEq,Ins.av,Ins.cells,Sp.av,Rg.av,Rg.cells]
  refine draw [.qu 0 0, .qu 0 0, .qu 0 0, .qu 0 0, .qu 0 0, .qu 0 0] (by kernel_rfl) (by kernel_rfl) ?_
  simp only [go_sem,Nat.reduceAdd,Nat.reduceSub,Nat.reduceEqDiff,Nat.reduceLT,Nat.reduceLeDiff,↓reduceIte,Int.reduceToNat,reduceCtorEq,Int.reduceLT,Int.reduceEq]
  refine y_call (enters_of Tryz.func85 rfl (by decide)) (fun _ => ACalls.pure_use (rilen_c _ hx) rfl rfl) ?_
  simp only [go_sem,Nat.reduceAdd,Nat.reduceSub,Nat.reduceEqDiff,Nat.reduceLT,Nat.reduceLeDiff,↓reduceIte,Int.reduceToNat,reduceCtorEq,Int.reduceLT,Int.reduceEq]
  refine rK_use (enters_of Tryz.func86 rfl (by decide)) (ACalls.pure_use (rfootprint_c _ hx r hr) rfl rfl) ?_
  simp only [go_sem,Nat.reduceAdd,Nat.reduceSub,Nat.reduceEqDiff,Nat.reduceLT,Nat.reduceLeDiff,↓reduceIte,Int.reduceToNat,reduceCtorEq,Int.reduceLT,Int.reduceEq]
  refine rK_use (enters_of Tryz.func87 rfl (by decide)) (ACalls.pure_use (rFault_c s hs (foot ⟨8, xa, xb, imm⟩ r) (foot_len _ r) (foot_size _ r)) rfl rfl) ?_
  simp only [go_sem,Nat.reduceAdd,Nat.reduceSub,Nat.reduceEqDiff,Nat.reduceLT,Nat.reduceLeDiff,↓reduceIte,Int.reduceToNat,reduceCtorEq,Int.reduceLT,Int.reduceEq,Flt.cells,hf]
  refine rK_use (enters_of Tryz.func88 rfl (by decide)) (ACalls.pure_use (isAlu_c 8) rfl rfl) ?_
  rw [show isAlu 8 = true from rfl]
  have hA := ralu_c 8 (r.get xa) (r.get xb) (hr.get _)
  simp only [go_sem,Nat.reduceAdd,Nat.reduceSub,Nat.reduceEqDiff,Nat.reduceLT,Nat.reduceLeDiff,↓reduceIte,Int.reduceToNat,reduceCtorEq,Int.reduceLT,Int.reduceEq]
  refine draw [.qu 0 0, .qu 0 0, .qu 0 0, .qu 0 0, .qu 0 0, .qu 0 0, .qu 0 0, .qu 0 0, .qu 0 0, .qu 0 0, .qu 0 0, .qu 0 0, .qu 0 0, .qu 0 0, .qu 0 0, .qu 0 0, .qu 0 0, .qu 0 0] (by kernel_rfl) (by kernel_rfl) ?_
  simp only [go_sem,Nat.reduceAdd,Nat.reduceSub,Nat.reduceEqDiff,Nat.reduceLT,Nat.reduceLeDiff,↓reduceIte,Int.reduceToNat,reduceCtorEq,Int.reduceLT,Int.reduceEq,Ins.av,Ins.cells,Sp.av,Rg.av,Rg.cells,Eff.cellsD,ha,ha19,hb,hata,hatb,wr0 ha.1 ha.2,trE,Eff.av,Eff.cells]
  cases hal : alu 8 (r.get xa) (r.get xb) with
  | none =>
    rw [hal] at hA
    refine y_call (enters_of Tryz.func89 rfl (by decide)) (fun _ => ACalls.pure_use (hA) rfl rfl) ?_
    simp only [go_sem,Nat.reduceAdd,Nat.reduceSub,Nat.reduceEqDiff,Nat.reduceLT,Nat.reduceLeDiff,↓reduceIte,Int.reduceToNat,reduceCtorEq,Int.reduceLT,Int.reduceEq,Ins.av,Ins.cells,Sp.av,Rg.av,Rg.cells,Eff.cellsD,ha,ha19,hb,hata,hatb,wr0 ha.1 ha.2,trE,Eff.av,Eff.cells,aluV,Option.isSome_none]
    refine rK_use (enters_of Tryz.func84 rfl (by decide)) (ACalls.pure_use (trapped_c ⟨8, xa, xb, imm⟩ r ⟨5, 0, ⟨0, 0⟩⟩) rfl (by simp [AV.lt, ltL, Eff.av_lt])) ?_
    simp only [go_sem,Nat.reduceAdd,Nat.reduceSub,Nat.reduceEqDiff,Nat.reduceLT,Nat.reduceLeDiff,↓reduceIte,Int.reduceToNat,reduceCtorEq,Int.reduceLT,Int.reduceEq,Ins.av,Ins.cells,Sp.av,Rg.av,Rg.cells,Eff.cellsD,ha,ha19,hb,hata,hatb,wr0 ha.1 ha.2,trE,Eff.av,Eff.cells]
    exact fin (trE ⟨8, xa, xb, imm⟩ r ⟨5, 0, ⟨0, 0⟩⟩) _ (by unfold exec; rw [reff_ok hf]; simp [hal, isAlu, tabR, Res.eff, Pr.setA, Pr.toPc, Pr.p1, Pr.start, Pr.set7, o0, m1, m2, m7, mp, trE])
  | some v =>
    rw [hal] at hA
    refine y_call (enters_of Tryz.func89 rfl (by decide)) (fun _ => ACalls.pure_use (hA) rfl rfl) ?_
    simp only [go_sem,Nat.reduceAdd,Nat.reduceSub,Nat.reduceEqDiff,Nat.reduceLT,Nat.reduceLeDiff,↓reduceIte,Int.reduceToNat,reduceCtorEq,Int.reduceLT,Int.reduceEq,Ins.av,Ins.cells,Sp.av,Rg.av,Rg.cells,Eff.cellsD,ha,ha19,hb,hata,hatb,wr0 ha.1 ha.2,trE,Eff.av,Eff.cells,aluV,Option.isSome_some,Option.getD_some]
    exact finN (m1 (o0 ⟨8, xa, xb, imm⟩ r) xa v) _ (by unfold exec; rw [reff_ok hf]; simp [hal, isAlu, tabR, Res.eff, Pr.setA, Pr.toPc, Pr.p1, Pr.start, Pr.set7, o0, m1, m2, m7, mp, trE]) rfl
theorem rx9_c (x : Ins) (hx : x.ok) (ho : x.op = 9) (s : Sp) (hs : s.ok) (r : Rg) (hr : r.wf) (hf : (ffault s (foot x r)).kind = 0) :
    ACalls Tryz.prog 47 [x.av, s.av, r.av] [] (fun u H => u = .ret (exec x s r).av ∧ H = []) := by
  refine ACalls.up ?_
  refine ACalls.intro (cs := []) (n := 175) Tryz.func47 rfl rfl rfl (by kernel_rfl) rfl ?_
  generalize hpost : (fun (u : Out) (H : Heap) => u = Out.ret (exec x s r).av ∧ H = []) = post
  have fin : ∀ (e : Eff) H, e = exec x s r → Up 0 post (.ret e.av) H := fun e H h => finv (Eff.av_lt e 0) (by rw [← hpost, ← h]; exact ⟨rfl, rfl⟩) H
  have finN : ∀ (e : Eff) H, e = exec x s r → e.data = [] → Up 0 post (.ret (.agg (e.cellsD dnil))) H := fun e H h hd => .le (.ret (.agg (leL_dnil e))) (LeH.refl _) (by have := fin e H h; unfold Eff.av Eff.cells at this; rwa [hd] at this)
  have ha : 0 ≤ x.a ∧ x.a < 8 := ⟨hx.a0, by have := hx.a7; omega⟩
  have hb : 0 ≤ x.b ∧ x.b < 8 := ⟨hx.b0, by have := hx.b7; omega⟩
  have ha19 : x.a.toNat + 1 ≤ 19 := by omega
  have hata := r.at hx.a0 hx.a7
  have hatb := r.at hx.b0 hx.b7
  have hfa := ffault0 hf
  obtain ⟨op, xa, xb, imm⟩ := x
  simp only at ho ha hb ha19 hata hatb
  subst ho
  simp only [go_sem,Nat.reduceAdd,Nat.reduceSub,Nat.reduceEqDiff,Nat.reduceLT,Nat.reduceLeDiff,↓reduceIte,Int.reduceToNat,reduceCtorEq,Int.reduceLT,Int.reduceEq,Ins.av,Ins.cells,Sp.av,Rg.av,Rg.cells]
  refine draw [.qu 0 0, .qu 0 0, .qu 0 0, .qu 0 0, .qu 0 0, .qu 0 0] (by kernel_rfl) (by kernel_rfl) ?_
  simp only [go_sem,Nat.reduceAdd,Nat.reduceSub,Nat.reduceEqDiff,Nat.reduceLT,Nat.reduceLeDiff,↓reduceIte,Int.reduceToNat,reduceCtorEq,Int.reduceLT,Int.reduceEq]
  refine y_call (enters_of Tryz.func85 rfl (by decide)) (fun _ => ACalls.pure_use (rilen_c _ hx) rfl rfl) ?_
  simp only [go_sem,Nat.reduceAdd,Nat.reduceSub,Nat.reduceEqDiff,Nat.reduceLT,Nat.reduceLeDiff,↓reduceIte,Int.reduceToNat,reduceCtorEq,Int.reduceLT,Int.reduceEq]
  refine rK_use (enters_of Tryz.func86 rfl (by decide)) (ACalls.pure_use (rfootprint_c _ hx r hr) rfl rfl) ?_
  simp only [go_sem,Nat.reduceAdd,Nat.reduceSub,Nat.reduceEqDiff,Nat.reduceLT,Nat.reduceLeDiff,↓reduceIte,Int.reduceToNat,reduceCtorEq,Int.reduceLT,Int.reduceEq]
  refine rK_use (enters_of Tryz.func87 rfl (by decide)) (ACalls.pure_use (rFault_c s hs (foot ⟨9, xa, xb, imm⟩ r) (foot_len _ r) (foot_size _ r)) rfl rfl) ?_
  simp only [go_sem,Nat.reduceAdd,Nat.reduceSub,Nat.reduceEqDiff,Nat.reduceLT,Nat.reduceLeDiff,↓reduceIte,Int.reduceToNat,reduceCtorEq,Int.reduceLT,Int.reduceEq,Flt.cells,hf]
  refine rK_use (enters_of Tryz.func88 rfl (by decide)) (ACalls.pure_use (isAlu_c 9) rfl rfl) ?_
  rw [show isAlu 9 = true from rfl]
  have hA := ralu_c 9 (r.get xa) (r.get xb) (hr.get _)
  simp only [go_sem,Nat.reduceAdd,Nat.reduceSub,Nat.reduceEqDiff,Nat.reduceLT,Nat.reduceLeDiff,↓reduceIte,Int.reduceToNat,reduceCtorEq,Int.reduceLT,Int.reduceEq]
  refine draw [.qu 0 0, .qu 0 0, .qu 0 0, .qu 0 0, .qu 0 0, .qu 0 0, .qu 0 0, .qu 0 0, .qu 0 0, .qu 0 0, .qu 0 0, .qu 0 0, .qu 0 0, .qu 0 0, .qu 0 0, .qu 0 0, .qu 0 0, .qu 0 0] (by kernel_rfl) (by kernel_rfl) ?_
  simp only [go_sem,Nat.reduceAdd,Nat.reduceSub,Nat.reduceEqDiff,Nat.reduceLT,Nat.reduceLeDiff,↓reduceIte,Int.reduceToNat,reduceCtorEq,Int.reduceLT,Int.reduceEq,Ins.av,Ins.cells,Sp.av,Rg.av,Rg.cells,Eff.cellsD,ha,ha19,hb,hata,hatb,wr0 ha.1 ha.2,trE,Eff.av,Eff.cells]
  cases hal : alu 9 (r.get xa) (r.get xb) with
  | none =>
    rw [hal] at hA
    refine y_call (enters_of Tryz.func89 rfl (by decide)) (fun _ => ACalls.pure_use (hA) rfl rfl) ?_
    simp only [go_sem,Nat.reduceAdd,Nat.reduceSub,Nat.reduceEqDiff,Nat.reduceLT,Nat.reduceLeDiff,↓reduceIte,Int.reduceToNat,reduceCtorEq,Int.reduceLT,Int.reduceEq,Ins.av,Ins.cells,Sp.av,Rg.av,Rg.cells,Eff.cellsD,ha,ha19,hb,hata,hatb,wr0 ha.1 ha.2,trE,Eff.av,Eff.cells,aluV,Option.isSome_none]
    refine rK_use (enters_of Tryz.func84 rfl (by decide)) (ACalls.pure_use (trapped_c ⟨9, xa, xb, imm⟩ r ⟨5, 0, ⟨0, 0⟩⟩) rfl (by simp [AV.lt, ltL, Eff.av_lt])) ?_
    simp only [go_sem,Nat.reduceAdd,Nat.reduceSub,Nat.reduceEqDiff,Nat.reduceLT,Nat.reduceLeDiff,↓reduceIte,Int.reduceToNat,reduceCtorEq,Int.reduceLT,Int.reduceEq,Ins.av,Ins.cells,Sp.av,Rg.av,Rg.cells,Eff.cellsD,ha,ha19,hb,hata,hatb,wr0 ha.1 ha.2,trE,Eff.av,Eff.cells]
    exact fin (trE ⟨9, xa, xb, imm⟩ r ⟨5, 0, ⟨0, 0⟩⟩) _ (by unfold exec; rw [reff_ok hf]; simp [hal, isAlu, tabR, Res.eff, Pr.setA, Pr.toPc, Pr.p1, Pr.start, Pr.set7, o0, m1, m2, m7, mp, trE])
  | some v =>
    rw [hal] at hA
    refine y_call (enters_of Tryz.func89 rfl (by decide)) (fun _ => ACalls.pure_use (hA) rfl rfl) ?_
    simp only [go_sem,Nat.reduceAdd,Nat.reduceSub,Nat.reduceEqDiff,Nat.reduceLT,Nat.reduceLeDiff,↓reduceIte,Int.reduceToNat,reduceCtorEq,Int.reduceLT,Int.reduceEq,Ins.av,Ins.cells,Sp.av,Rg.av,Rg.cells,Eff.cellsD,ha,ha19,hb,hata,hatb,wr0 ha.1 ha.2,trE,Eff.av,Eff.cells,aluV,Option.isSome_some,Option.getD_some]
    exact finN (m1 (o0 ⟨9, xa, xb, imm⟩ r) xa v) _ (by unfold exec; rw [reff_ok hf]; simp [hal, isAlu, tabR, Res.eff, Pr.setA, Pr.toPc, Pr.p1, Pr.start, Pr.set7, o0, m1, m2, m7, mp, trE]) rfl
theorem rx10_c (x : Ins) (hx : x.ok) (ho : x.op = 10) (s : Sp) (hs : s.ok) (r : Rg) (hr : r.wf) (hf : (ffault s (foot x r)).kind = 0) :
    ACalls Tryz.prog 47 [x.av, s.av, r.av] [] (fun u H => u = .ret (exec x s r).av ∧ H = []) := by
  refine ACalls.up ?_
  refine ACalls.intro (cs := []) (n := 175) Tryz.func47 rfl rfl rfl (by kernel_rfl) rfl ?_
  generalize hpost : (fun (u : Out) (H : Heap) => u = Out.ret (exec x s r).av ∧ H = []) = post
  have fin : ∀ (e : Eff) H, e = exec x s r → Up 0 post (.ret e.av) H := fun e H h => finv (Eff.av_lt e 0) (by rw [← hpost, ← h]; exact ⟨rfl, rfl⟩) H
  have finN : ∀ (e : Eff) H, e = exec x s r → e.data = [] → Up 0 post (.ret (.agg (e.cellsD dnil))) H := fun e H h hd => .le (.ret (.agg (leL_dnil e))) (LeH.refl _) (by have := fin e H h; unfold Eff.av Eff.cells at this; rwa [hd] at this)
  have ha : 0 ≤ x.a ∧ x.a < 8 := ⟨hx.a0, by have := hx.a7; omega⟩
  have hb : 0 ≤ x.b ∧ x.b < 8 := ⟨hx.b0, by have := hx.b7; omega⟩
  have ha19 : x.a.toNat + 1 ≤ 19 := by omega
  have hata := r.at hx.a0 hx.a7
  have hatb := r.at hx.b0 hx.b7
  have hfa := ffault0 hf
  obtain ⟨op, xa, xb, imm⟩ := x
  simp only at ho ha hb ha19 hata hatb
  subst ho
  simp only [go_sem,Nat.reduceAdd,Nat.reduceSub,Nat.reduceEqDiff,Nat.reduceLT,Nat.reduceLeDiff,↓reduceIte,Int.reduceToNat,reduceCtorEq,Int.reduceLT,Int.reduceEq,Ins.av,Ins.cells,Sp.av,Rg.av,Rg.cells]
  refine draw [.qu 0 0, .qu 0 0, .qu 0 0, .qu 0 0, .qu 0 0, .qu 0 0] (by kernel_rfl) (by kernel_rfl) ?_
  simp only [go_sem,Nat.reduceAdd,Nat.reduceSub,Nat.reduceEqDiff,Nat.reduceLT,Nat.reduceLeDiff,↓reduceIte,Int.reduceToNat,reduceCtorEq,Int.reduceLT,Int.reduceEq]
  refine y_call (enters_of Tryz.func85 rfl (by decide)) (fun _ => ACalls.pure_use (rilen_c _ hx) rfl rfl) ?_
  simp only [go_sem,Nat.reduceAdd,Nat.reduceSub,Nat.reduceEqDiff,Nat.reduceLT,Nat.reduceLeDiff,↓reduceIte,Int.reduceToNat,reduceCtorEq,Int.reduceLT,Int.reduceEq]
  refine rK_use (enters_of Tryz.func86 rfl (by decide)) (ACalls.pure_use (rfootprint_c _ hx r hr) rfl rfl) ?_
  simp only [go_sem,Nat.reduceAdd,Nat.reduceSub,Nat.reduceEqDiff,Nat.reduceLT,Nat.reduceLeDiff,↓reduceIte,Int.reduceToNat,reduceCtorEq,Int.reduceLT,Int.reduceEq]
  refine rK_use (enters_of Tryz.func87 rfl (by decide)) (ACalls.pure_use (rFault_c s hs (foot ⟨10, xa, xb, imm⟩ r) (foot_len _ r) (foot_size _ r)) rfl rfl) ?_
  simp only [go_sem,Nat.reduceAdd,Nat.reduceSub,Nat.reduceEqDiff,Nat.reduceLT,Nat.reduceLeDiff,↓reduceIte,Int.reduceToNat,reduceCtorEq,Int.reduceLT,Int.reduceEq,Flt.cells,hf]
  refine rK_use (enters_of Tryz.func88 rfl (by decide)) (ACalls.pure_use (isAlu_c 10) rfl rfl) ?_
  rw [show isAlu 10 = true from rfl]
  have hA := ralu_c 10 (r.get xa) (r.get xb) (hr.get _)
  simp only [go_sem,Nat.reduceAdd,Nat.reduceSub,Nat.reduceEqDiff,Nat.reduceLT,Nat.reduceLeDiff,↓reduceIte,Int.reduceToNat,reduceCtorEq,Int.reduceLT,Int.reduceEq]
  refine draw [.qu 0 0, .qu 0 0, .qu 0 0, .qu 0 0, .qu 0 0, .qu 0 0, .qu 0 0, .qu 0 0, .qu 0 0, .qu 0 0, .qu 0 0, .qu 0 0, .qu 0 0, .qu 0 0, .qu 0 0, .qu 0 0, .qu 0 0, .qu 0 0] (by kernel_rfl) (by kernel_rfl) ?_
  simp only [go_sem,Nat.reduceAdd,Nat.reduceSub,Nat.reduceEqDiff,Nat.reduceLT,Nat.reduceLeDiff,↓reduceIte,Int.reduceToNat,reduceCtorEq,Int.reduceLT,Int.reduceEq,Ins.av,Ins.cells,Sp.av,Rg.av,Rg.cells,Eff.cellsD,ha,ha19,hb,hata,hatb,wr0 ha.1 ha.2,trE,Eff.av,Eff.cells]
  cases hal : alu 10 (r.get xa) (r.get xb) with
  | none =>
    rw [hal] at hA
    refine y_call (enters_of Tryz.func89 rfl (by decide)) (fun _ => ACalls.pure_use (hA) rfl rfl) ?_
    simp only [go_sem,Nat.reduceAdd,Nat.reduceSub,Nat.reduceEqDiff,Nat.reduceLT,Nat.reduceLeDiff,↓reduceIte,Int.reduceToNat,reduceCtorEq,Int.reduceLT,Int.reduceEq,Ins.av,Ins.cells,Sp.av,Rg.av,Rg.cells,Eff.cellsD,ha,ha19,hb,hata,hatb,wr0 ha.1 ha.2,trE,Eff.av,Eff.cells,aluV,Option.isSome_none]
    refine rK_use (enters_of Tryz.func84 rfl (by decide)) (ACalls.pure_use (trapped_c ⟨10, xa, xb, imm⟩ r ⟨5, 0, ⟨0, 0⟩⟩) rfl (by simp [AV.lt, ltL, Eff.av_lt])) ?_
    simp only [go_sem,Nat.reduceAdd,Nat.reduceSub,Nat.reduceEqDiff,Nat.reduceLT,Nat.reduceLeDiff,↓reduceIte,Int.reduceToNat,reduceCtorEq,Int.reduceLT,Int.reduceEq,Ins.av,Ins.cells,Sp.av,Rg.av,Rg.cells,Eff.cellsD,ha,ha19,hb,hata,hatb,wr0 ha.1 ha.2,trE,Eff.av,Eff.cells]
    exact fin (trE ⟨10, xa, xb, imm⟩ r ⟨5, 0, ⟨0, 0⟩⟩) _ (by unfold exec; rw [reff_ok hf]; simp [hal, isAlu, tabR, Res.eff, Pr.setA, Pr.toPc, Pr.p1, Pr.start, Pr.set7, o0, m1, m2, m7, mp, trE])
  | some v =>
    rw [hal] at hA
    refine y_call (enters_of Tryz.func89 rfl (by decide)) (fun _ => ACalls.pure_use (hA) rfl rfl) ?_
    simp only [go_sem,Nat.reduceAdd,Nat.reduceSub,Nat.reduceEqDiff,Nat.reduceLT,Nat.reduceLeDiff,↓reduceIte,Int.reduceToNat,reduceCtorEq,Int.reduceLT,Int.reduceEq,Ins.av,Ins.cells,Sp.av,Rg.av,Rg.cells,Eff.cellsD,ha,ha19,hb,hata,hatb,wr0 ha.1 ha.2,trE,Eff.av,Eff.cells,aluV,Option.isSome_some,Option.getD_some]
    exact finN (m1 (o0 ⟨10, xa, xb, imm⟩ r) xa v) _ (by unfold exec; rw [reff_ok hf]; simp [hal, isAlu, tabR, Res.eff, Pr.setA, Pr.toPc, Pr.p1, Pr.start, Pr.set7, o0, m1, m2, m7, mp, trE]) rfl
theorem rx11_c (x : Ins) (hx : x.ok) (ho : x.op = 11) (s : Sp) (hs : s.ok) (r : Rg) (hr : r.wf) (hf : (ffault s (foot x r)).kind = 0) :
    ACalls Tryz.prog 47 [x.av, s.av, r.av] [] (fun u H => u = .ret (exec x s r).av ∧ H = []) := by
  refine ACalls.up ?_
  refine ACalls.intro (cs := []) (n := 175) Tryz.func47 rfl rfl rfl (by kernel_rfl) rfl ?_
  generalize hpost : (fun (u : Out) (H : Heap) => u = Out.ret (exec x s r).av ∧ H = []) = post
  have fin : ∀ (e : Eff) H, e = exec x s r → Up 0 post (.ret e.av) H := fun e H h => finv (Eff.av_lt e 0) (by rw [← hpost, ← h]; exact ⟨rfl, rfl⟩) H
  have finN : ∀ (e : Eff) H, e = exec x s r → e.data = [] → Up 0 post (.ret (.agg (e.cellsD dnil))) H := fun e H h hd => .le (.ret (.agg (leL_dnil e))) (LeH.refl _) (by have := fin e H h; unfold Eff.av Eff.cells at this; rwa [hd] at this)
  have ha : 0 ≤ x.a ∧ x.a < 8 := ⟨hx.a0, by have := hx.a7; omega⟩
  have hb : 0 ≤ x.b ∧ x.b < 8 := ⟨hx.b0, by have := hx.b7; omega⟩
  have ha19 : x.a.toNat + 1 ≤ 19 := by omega
  have hata := r.at hx.a0 hx.a7
  have hatb := r.at hx.b0 hx.b7
  have hfa := ffault0 hf
  obtain ⟨op, xa, xb, imm⟩ := x
  simp only at ho ha hb ha19 hata hatb
  subst ho
  simp only [go_sem,Nat.reduceAdd,Nat.reduceSub,Nat.reduceEqDiff,Nat.reduceLT,Nat.reduceLeDiff,↓reduceIte,Int.reduceToNat,reduceCtorEq,Int.reduceLT,Int.reduceEq,Ins.av,Ins.cells,Sp.av,Rg.av,Rg.cells]
  refine draw [.qu 0 0, .qu 0 0, .qu 0 0, .qu 0 0, .qu 0 0, .qu 0 0] (by kernel_rfl) (by kernel_rfl) ?_
  simp only [go_sem,Nat.reduceAdd,Nat.reduceSub,Nat.reduceEqDiff,Nat.reduceLT,Nat.reduceLeDiff,↓reduceIte,Int.reduceToNat,reduceCtorEq,Int.reduceLT,Int.reduceEq]
  refine y_call (enters_of Tryz.func85 rfl (by decide)) (fun _ => ACalls.pure_use (rilen_c _ hx) rfl rfl) ?_
  simp only [go_sem,Nat.reduceAdd,Nat.reduceSub,Nat.reduceEqDiff,Nat.reduceLT,Nat.reduceLeDiff,↓reduceIte,Int.reduceToNat,reduceCtorEq,Int.reduceLT,Int.reduceEq]
  refine rK_use (enters_of Tryz.func86 rfl (by decide)) (ACalls.pure_use (rfootprint_c _ hx r hr) rfl rfl) ?_
  simp only [go_sem,Nat.reduceAdd,Nat.reduceSub,Nat.reduceEqDiff,Nat.reduceLT,Nat.reduceLeDiff,↓reduceIte,Int.reduceToNat,reduceCtorEq,Int.reduceLT,Int.reduceEq]
  refine rK_use (enters_of Tryz.func87 rfl (by decide)) (ACalls.pure_use (rFault_c s hs (foot ⟨11, xa, xb, imm⟩ r) (foot_len _ r) (foot_size _ r)) rfl rfl) ?_
  simp only [go_sem,Nat.reduceAdd,Nat.reduceSub,Nat.reduceEqDiff,Nat.reduceLT,Nat.reduceLeDiff,↓reduceIte,Int.reduceToNat,reduceCtorEq,Int.reduceLT,Int.reduceEq,Flt.cells,hf]
  refine rK_use (enters_of Tryz.func88 rfl (by decide)) (ACalls.pure_use (isAlu_c 11) rfl rfl) ?_
  rw [show isAlu 11 = true from rfl]
  have hA := ralu_c 11 (r.get xa) (r.get xb) (hr.get _)
  simp only [go_sem,Nat.reduceAdd,Nat.reduceSub,Nat.reduceEqDiff,Nat.reduceLT,Nat.reduceLeDiff,↓reduceIte,Int.reduceToNat,reduceCtorEq,Int.reduceLT,Int.reduceEq]
  refine draw [.qu 0 0, .qu 0 0, .qu 0 0, .qu 0 0, .qu 0 0, .qu 0 0, .qu 0 0, .qu 0 0, .qu 0 0, .qu 0 0, .qu 0 0, .qu 0 0, .qu 0 0, .qu 0 0, .qu 0 0, .qu 0 0, .qu 0 0, .qu 0 0] (by kernel_rfl) (by kernel_rfl) ?_
  simp only [go_sem,Nat.reduceAdd,Nat.reduceSub,Nat.reduceEqDiff,Nat.reduceLT,Nat.reduceLeDiff,↓reduceIte,Int.reduceToNat,reduceCtorEq,Int.reduceLT,Int.reduceEq,Ins.av,Ins.cells,Sp.av,Rg.av,Rg.cells,Eff.cellsD,ha,ha19,hb,hata,hatb,wr0 ha.1 ha.2,trE,Eff.av,Eff.cells]
  cases hal : alu 11 (r.get xa) (r.get xb) with
  | none =>
    rw [hal] at hA
    refine y_call (enters_of Tryz.func89 rfl (by decide)) (fun _ => ACalls.pure_use (hA) rfl rfl) ?_
    simp only [go_sem,Nat.reduceAdd,Nat.reduceSub,Nat.reduceEqDiff,Nat.reduceLT,Nat.reduceLeDiff,↓reduceIte,Int.reduceToNat,reduceCtorEq,Int.reduceLT,Int.reduceEq,Ins.av,Ins.cells,Sp.av,Rg.av,Rg.cells,Eff.cellsD,ha,ha19,hb,hata,hatb,wr0 ha.1 ha.2,trE,Eff.av,Eff.cells,aluV,Option.isSome_none]
    refine rK_use (enters_of Tryz.func84 rfl (by decide)) (ACalls.pure_use (trapped_c ⟨11, xa, xb, imm⟩ r ⟨5, 0, ⟨0, 0⟩⟩) rfl (by simp [AV.lt, ltL, Eff.av_lt])) ?_
    simp only [go_sem,Nat.reduceAdd,Nat.reduceSub,Nat.reduceEqDiff,Nat.reduceLT,Nat.reduceLeDiff,↓reduceIte,Int.reduceToNat,reduceCtorEq,Int.reduceLT,Int.reduceEq,Ins.av,Ins.cells,Sp.av,Rg.av,Rg.cells,Eff.cellsD,ha,ha19,hb,hata,hatb,wr0 ha.1 ha.2,trE,Eff.av,Eff.cells]
    exact fin (trE ⟨11, xa, xb, imm⟩ r ⟨5, 0, ⟨0, 0⟩⟩) _ (by unfold exec; rw [reff_ok hf]; simp [hal, isAlu, tabR, Res.eff, Pr.setA, Pr.toPc, Pr.p1, Pr.start, Pr.set7, o0, m1, m2, m7, mp, trE])
  | some v =>
    rw [hal] at hA
    refine y_call (enters_of Tryz.func89 rfl (by decide)) (fun _ => ACalls.pure_use (hA) rfl rfl) ?_
    simp only [go_sem,Nat.reduceAdd,Nat.reduceSub,Nat.reduceEqDiff,Nat.reduceLT,Nat.reduceLeDiff,↓reduceIte,Int.reduceToNat,reduceCtorEq,Int.reduceLT,Int.reduceEq,Ins.av,Ins.cells,Sp.av,Rg.av,Rg.cells,Eff.cellsD,ha,ha19,hb,hata,hatb,wr0 ha.1 ha.2,trE,Eff.av,Eff.cells,aluV,Option.isSome_some,Option.getD_some]
    exact finN (m1 (o0 ⟨11, xa, xb, imm⟩ r) xa v) _ (by unfold exec; rw [reff_ok hf]; simp [hal, isAlu, tabR, Res.eff, Pr.setA, Pr.toPc, Pr.p1, Pr.start, Pr.set7, o0, m1, m2, m7, mp, trE]) rfl
theorem rx12_c (x : Ins) (hx : x.ok) (ho : x.op = 12) (s : Sp) (hs : s.ok) (r : Rg) (hr : r.wf) (hf : (ffault s (foot x r)).kind = 0) :
    ACalls Tryz.prog 47 [x.av, s.av, r.av] [] (fun u H => u = .ret (exec x s r).av ∧ H = []) := by
  refine ACalls.up ?_
  refine ACalls.intro (cs := []) (n := 175) Tryz.func47 rfl rfl rfl (by kernel_rfl) rfl ?_
  generalize hpost : (fun (u : Out) (H : Heap) => u = Out.ret (exec x s r).av ∧ H = []) = post
  have fin : ∀ (e : Eff) H, e = exec x s r → Up 0 post (.ret e.av) H := fun e H h => finv (Eff.av_lt e 0) (by rw [← hpost, ← h]; exact ⟨rfl, rfl⟩) H
  have finN : ∀ (e : Eff) H, e = exec x s r → e.data = [] → Up 0 post (.ret (.agg (e.cellsD dnil))) H := fun e H h hd => .le (.ret (.agg (leL_dnil e))) (LeH.refl _) (by have := fin e H h; unfold Eff.av Eff.cells at this; rwa [hd] at this)
  have ha : 0 ≤ x.a ∧ x.a < 8 := ⟨hx.a0, by have := hx.a7; omega⟩
  have hb : 0 ≤ x.b ∧ x.b < 8 := ⟨hx.b0, by have := hx.b7; omega⟩
  have ha19 : x.a.toNat + 1 ≤ 19 := by omega
  have hata := r.at hx.a0 hx.a7
  have hatb := r.at hx.b0 hx.b7
  have hfa := ffault0 hf
  obtain ⟨op, xa, xb, imm⟩ := x
  simp only at ho ha hb ha19 hata hatb
  subst ho
  simp only [go_sem,Nat.reduceAdd,Nat.reduceSub,Nat.reduceEqDiff,Nat.reduceLT,Nat.reduceLeDiff,↓reduceIte,Int.reduceToNat,reduceCtorEq,Int.reduceLT,Int.reduceEq,Ins.av,Ins.cells,Sp.av,Rg.av,Rg.cells]
  refine draw [.qu 0 0, .qu 0 0, .qu 0 0, .qu 0 0, .qu 0 0, .qu 0 0] (by kernel_rfl) (by kernel_rfl) ?_
  simp only [go_sem,Nat.reduceAdd,Nat.reduceSub,Nat.reduceEqDiff,Nat.reduceLT,Nat.reduceLeDiff,↓reduceIte,Int.reduceToNat,reduceCtorEq,Int.reduceLT,Int.reduceEq]
  refine y_call (enters_of Tryz.func85 rfl (by decide)) (fun _ => ACalls.pure_use (rilen_c _ hx) rfl rfl) ?_
  simp only [go_sem,Nat.reduceAdd,Nat.reduceSub,Nat.reduceEqDiff,Nat.reduceLT,Nat.reduceLeDiff,↓reduceIte,Int.reduceToNat,reduceCtorEq,Int.reduceLT,Int.reduceEq]
  refine rK_use (enters_of Tryz.func86 rfl (by decide)) (ACalls.pure_use (rfootprint_c _ hx r hr) rfl rfl) ?_
  simp only [go_sem,Nat.reduceAdd,Nat.reduceSub,Nat.reduceEqDiff,Nat.reduceLT,Nat.reduceLeDiff,↓reduceIte,Int.reduceToNat,reduceCtorEq,Int.reduceLT,Int.reduceEq]
  refine rK_use (enters_of Tryz.func87 rfl (by decide)) (ACalls.pure_use (rFault_c s hs (foot ⟨12, xa, xb, imm⟩ r) (foot_len _ r) (foot_size _ r)) rfl rfl) ?_
  simp only [go_sem,Nat.reduceAdd,Nat.reduceSub,Nat.reduceEqDiff,Nat.reduceLT,Nat.reduceLeDiff,↓reduceIte,Int.reduceToNat,reduceCtorEq,Int.reduceLT,Int.reduceEq,Flt.cells,hf]
  refine rK_use (enters_of Tryz.func88 rfl (by decide)) (ACalls.pure_use (isAlu_c 12) rfl rfl) ?_
  rw [show isAlu 12 = true from rfl]
  have hA := ralu_c 12 (r.get xa) (r.get xb) (hr.get _)
  simp only [go_sem,Nat.reduceAdd,Nat.reduceSub,Nat.reduceEqDiff,Nat.reduceLT,Nat.reduceLeDiff,↓reduceIte,Int.reduceToNat,reduceCtorEq,Int.reduceLT,Int.reduceEq]
  refine draw [.qu 0 0, .qu 0 0, .qu 0 0, .qu 0 0, .qu 0 0, .qu 0 0, .qu 0 0, .qu 0 0, .qu 0 0, .qu 0 0, .qu 0 0, .qu 0 0, .qu 0 0, .qu 0 0, .qu 0 0, .qu 0 0, .qu 0 0, .qu 0 0] (by kernel_rfl) (by kernel_rfl) ?_
  simp only [go_sem,Nat.reduceAdd,Nat.reduceSub,Nat.reduceEqDiff,Nat.reduceLT,Nat.reduceLeDiff,↓reduceIte,Int.reduceToNat,reduceCtorEq,Int.reduceLT,Int.reduceEq,Ins.av,Ins.cells,Sp.av,Rg.av,Rg.cells,Eff.cellsD,ha,ha19,hb,hata,hatb,wr0 ha.1 ha.2,trE,Eff.av,Eff.cells]
  cases hal : alu 12 (r.get xa) (r.get xb) with
  | none =>
    rw [hal] at hA
    refine y_call (enters_of Tryz.func89 rfl (by decide)) (fun _ => ACalls.pure_use (hA) rfl rfl) ?_
    simp only [go_sem,Nat.reduceAdd,Nat.reduceSub,Nat.reduceEqDiff,Nat.reduceLT,Nat.reduceLeDiff,↓reduceIte,Int.reduceToNat,reduceCtorEq,Int.reduceLT,Int.reduceEq,Ins.av,Ins.cells,Sp.av,Rg.av,Rg.cells,Eff.cellsD,ha,ha19,hb,hata,hatb,wr0 ha.1 ha.2,trE,Eff.av,Eff.cells,aluV,Option.isSome_none]
    refine rK_use (enters_of Tryz.func84 rfl (by decide)) (ACalls.pure_use (trapped_c ⟨12, xa, xb, imm⟩ r ⟨5, 0, ⟨0, 0⟩⟩) rfl (by simp [AV.lt, ltL, Eff.av_lt])) ?_
    simp only [go_sem,Nat.reduceAdd,Nat.reduceSub,Nat.reduceEqDiff,Nat.reduceLT,Nat.reduceLeDiff,↓reduceIte,Int.reduceToNat,reduceCtorEq,Int.reduceLT,Int.reduceEq,Ins.av,Ins.cells,Sp.av,Rg.av,Rg.cells,Eff.cellsD,ha,ha19,hb,hata,hatb,wr0 ha.1 ha.2,trE,Eff.av,Eff.cells]
    exact fin (trE ⟨12, xa, xb, imm⟩ r ⟨5, 0, ⟨0, 0⟩⟩) _ (by unfold exec; rw [reff_ok hf]; simp [hal, isAlu, tabR, Res.eff, Pr.setA, Pr.toPc, Pr.p1, Pr.start, Pr.set7, o0, m1, m2, m7, mp, trE])
  | some v =>
    rw [hal] at hA
    refine y_call (enters_of Tryz.func89 rfl (by decide)) (fun _ => ACalls.pure_use (hA) rfl rfl) ?_
    simp only [go_sem,Nat.reduceAdd,Nat.reduceSub,Nat.reduceEqDiff,Nat.reduceLT,Nat.reduceLeDiff,↓reduceIte,Int.reduceToNat,reduceCtorEq,Int.reduceLT,Int.reduceEq,Ins.av,Ins.cells,Sp.av,Rg.av,Rg.cells,Eff.cellsD,ha,ha19,hb,hata,hatb,wr0 ha.1 ha.2,trE,Eff.av,Eff.cells,aluV,Option.isSome_some,Option.getD_some]
    exact finN (m1 (o0 ⟨12, xa, xb, imm⟩ r) xa v) _ (by unfold exec; rw [reff_ok hf]; simp [hal, isAlu, tabR, Res.eff, Pr.setA, Pr.toPc, Pr.p1, Pr.start, Pr.set7, o0, m1, m2, m7, mp, trE]) rfl
theorem rx13_c (x : Ins) (hx : x.ok) (ho : x.op = 13) (s : Sp) (hs : s.ok) (r : Rg) (hr : r.wf) (hf : (ffault s (foot x r)).kind = 0) :
    ACalls Tryz.prog 47 [x.av, s.av, r.av] [] (fun u H => u = .ret (exec x s r).av ∧ H = []) := by
  refine ACalls.up ?_
  refine ACalls.intro (cs := []) (n := 175) Tryz.func47 rfl rfl rfl (by kernel_rfl) rfl ?_
  generalize hpost : (fun (u : Out) (H : Heap) => u = Out.ret (exec x s r).av ∧ H = []) = post
  have fin : ∀ (e : Eff) H, e = exec x s r → Up 0 post (.ret e.av) H := fun e H h => finv (Eff.av_lt e 0) (by rw [← hpost, ← h]; exact ⟨rfl, rfl⟩) H
  have finN : ∀ (e : Eff) H, e = exec x s r → e.data = [] → Up 0 post (.ret (.agg (e.cellsD dnil))) H := fun e H h hd => .le (.ret (.agg (leL_dnil e))) (LeH.refl _) (by have := fin e H h; unfold Eff.av Eff.cells at this; rwa [hd] at this)
  have ha : 0 ≤ x.a ∧ x.a < 8 := ⟨hx.a0, by have := hx.a7; omega⟩
  have hb : 0 ≤ x.b ∧ x.b < 8 := ⟨hx.b0, by have := hx.b7; omega⟩
  have ha19 : x.a.toNat + 1 ≤ 19 := by omega
  have hata := r.at hx.a0 hx.a7
  have hatb := r.at hx.b0 hx.b7
  have hfa := ffault0 hf
  obtain ⟨op, xa, xb, imm⟩ := x
  simp only at ho ha hb ha19 hata hatb
  subst ho
  simp only [go_sem,Nat.reduceAdd,Nat.reduceSub,Nat.reduceEqDiff,Nat.reduceLT,Nat.reduceLeDiff,↓reduceIte,Int.reduceToNat,reduceCtorEq,Int.reduceLT,Int.reduceEq,Ins.av,Ins.cells,Sp.av,Rg.av,Rg.cells]
  refine draw [.qu 0 0, .qu 0 0, .qu 0 0, .qu 0 0, .qu 0 0, .qu 0 0] (by kernel_rfl) (by kernel_rfl) ?_
  simp only [go_sem,Nat.reduceAdd,Nat.reduceSub,Nat.reduceEqDiff,Nat.reduceLT,Nat.reduceLeDiff,↓reduceIte,Int.reduceToNat,reduceCtorEq,Int.reduceLT,Int.reduceEq]
  refine y_call (enters_of Tryz.func85 rfl (by decide)) (fun _ => ACalls.pure_use (rilen_c _ hx) rfl rfl) ?_
  simp only [go_sem,Nat.reduceAdd,Nat.reduceSub,Nat.reduceEqDiff,Nat.reduceLT,Nat.reduceLeDiff,↓reduceIte,Int.reduceToNat,reduceCtorEq,Int.reduceLT,Int.reduceEq]
  refine rK_use (enters_of Tryz.func86 rfl (by decide)) (ACalls.pure_use (rfootprint_c _ hx r hr) rfl rfl) ?_
  simp only [go_sem,Nat.reduceAdd,Nat.reduceSub,Nat.reduceEqDiff,Nat.reduceLT,Nat.reduceLeDiff,↓reduceIte,Int.reduceToNat,reduceCtorEq,Int.reduceLT,Int.reduceEq]
  refine rK_use (enters_of Tryz.func87 rfl (by decide)) (ACalls.pure_use (rFault_c s hs (foot ⟨13, xa, xb, imm⟩ r) (foot_len _ r) (foot_size _ r)) rfl rfl) ?_
  simp only [go_sem,Nat.reduceAdd,Nat.reduceSub,Nat.reduceEqDiff,Nat.reduceLT,Nat.reduceLeDiff,↓reduceIte,Int.reduceToNat,reduceCtorEq,Int.reduceLT,Int.reduceEq,Flt.cells,hf]
  refine rK_use (enters_of Tryz.func88 rfl (by decide)) (ACalls.pure_use (isAlu_c 13) rfl rfl) ?_
  rw [show isAlu 13 = true from rfl]
  have hA := ralu_c 13 (r.get xa) (r.get xb) (hr.get _)
  simp only [go_sem,Nat.reduceAdd,Nat.reduceSub,Nat.reduceEqDiff,Nat.reduceLT,Nat.reduceLeDiff,↓reduceIte,Int.reduceToNat,reduceCtorEq,Int.reduceLT,Int.reduceEq]
  refine draw [.qu 0 0, .qu 0 0, .qu 0 0, .qu 0 0, .qu 0 0, .qu 0 0, .qu 0 0, .qu 0 0, .qu 0 0, .qu 0 0, .qu 0 0, .qu 0 0, .qu 0 0, .qu 0 0, .qu 0 0, .qu 0 0, .qu 0 0, .qu 0 0] (by kernel_rfl) (by kernel_rfl) ?_
  simp only [go_sem,Nat.reduceAdd,Nat.reduceSub,Nat.reduceEqDiff,Nat.reduceLT,Nat.reduceLeDiff,↓reduceIte,Int.reduceToNat,reduceCtorEq,Int.reduceLT,Int.reduceEq,Ins.av,Ins.cells,Sp.av,Rg.av,Rg.cells,Eff.cellsD,ha,ha19,hb,hata,hatb,wr0 ha.1 ha.2,trE,Eff.av,Eff.cells]
  cases hal : alu 13 (r.get xa) (r.get xb) with
  | none =>
    rw [hal] at hA
    refine y_call (enters_of Tryz.func89 rfl (by decide)) (fun _ => ACalls.pure_use (hA) rfl rfl) ?_
    simp only [go_sem,Nat.reduceAdd,Nat.reduceSub,Nat.reduceEqDiff,Nat.reduceLT,Nat.reduceLeDiff,↓reduceIte,Int.reduceToNat,reduceCtorEq,Int.reduceLT,Int.reduceEq,Ins.av,Ins.cells,Sp.av,Rg.av,Rg.cells,Eff.cellsD,ha,ha19,hb,hata,hatb,wr0 ha.1 ha.2,trE,Eff.av,Eff.cells,aluV,Option.isSome_none]
    refine rK_use (enters_of Tryz.func84 rfl (by decide)) (ACalls.pure_use (trapped_c ⟨13, xa, xb, imm⟩ r ⟨5, 0, ⟨0, 0⟩⟩) rfl (by simp [AV.lt, ltL, Eff.av_lt])) ?_
    simp only [go_sem,Nat.reduceAdd,Nat.reduceSub,Nat.reduceEqDiff,Nat.reduceLT,Nat.reduceLeDiff,↓reduceIte,Int.reduceToNat,reduceCtorEq,Int.reduceLT,Int.reduceEq,Ins.av,Ins.cells,Sp.av,Rg.av,Rg.cells,Eff.cellsD,ha,ha19,hb,hata,hatb,wr0 ha.1 ha.2,trE,Eff.av,Eff.cells]
    exact fin (trE ⟨13, xa, xb, imm⟩ r ⟨5, 0, ⟨0, 0⟩⟩) _ (by unfold exec; rw [reff_ok hf]; simp [hal, isAlu, tabR, Res.eff, Pr.setA, Pr.toPc, Pr.p1, Pr.start, Pr.set7, o0, m1, m2, m7, mp, trE])
  | some v =>
    rw [hal] at hA
    refine y_call (enters_of Tryz.func89 rfl (by decide)) (fun _ => ACalls.pure_use (hA) rfl rfl) ?_
    simp only [go_sem,Nat.reduceAdd,Nat.reduceSub,Nat.reduceEqDiff,Nat.reduceLT,Nat.reduceLeDiff,↓reduceIte,Int.reduceToNat,reduceCtorEq,Int.reduceLT,Int.reduceEq,Ins.av,Ins.cells,Sp.av,Rg.av,Rg.cells,Eff.cellsD,ha,ha19,hb,hata,hatb,wr0 ha.1 ha.2,trE,Eff.av,Eff.cells,aluV,Option.isSome_some,Option.getD_some]
    exact finN (m1 (o0 ⟨13, xa, xb, imm⟩ r) xa v) _ (by unfold exec; rw [reff_ok hf]; simp [hal, isAlu, tabR, Res.eff, Pr.setA, Pr.toPc, Pr.p1, Pr.start, Pr.set7, o0, m1, m2, m7, mp, trE]) rfl
theorem rx14_c (x : Ins) (hx : x.ok) (ho : x.op = 14) (s : Sp) (hs : s.ok) (r : Rg) (hr : r.wf) (hf : (ffault s (foot x r)).kind = 0) :
    ACalls Tryz.prog 47 [x.av, s.av, r.av] [] (fun u H => u = .ret (exec x s r).av ∧ H = []) := by
  refine ACalls.up ?_
  refine ACalls.intro (cs := []) (n := 175) Tryz.func47 rfl rfl rfl (by kernel_rfl) rfl ?_
  generalize hpost : (fun (u : Out) (H : Heap) => u = Out.ret (exec x s r).av ∧ H = []) = post
  have fin : ∀ (e : Eff) H, e = exec x s r → Up 0 post (.ret e.av) H := fun e H h => finv (Eff.av_lt e 0) (by rw [← hpost, ← h]; exact ⟨rfl, rfl⟩) H
  have finN : ∀ (e : Eff) H, e = exec x s r → e.data = [] → Up 0 post (.ret (.agg (e.cellsD dnil))) H := fun e H h hd => .le (.ret (.agg (leL_dnil e))) (LeH.refl _) (by have := fin e H h; unfold Eff.av Eff.cells at this; rwa [hd] at this)
  have ha : 0 ≤ x.a ∧ x.a < 8 := ⟨hx.a0, by have := hx.a7; omega⟩
  have hb : 0 ≤ x.b ∧ x.b < 8 := ⟨hx.b0, by have := hx.b7; omega⟩
  have ha19 : x.a.toNat + 1 ≤ 19 := by omega
  have hata := r.at hx.a0 hx.a7
  have hatb := r.at hx.b0 hx.b7
  have hfa := ffault0 hf
  obtain ⟨op, xa, xb, imm⟩ := x
  simp only at ho ha hb ha19 hata hatb
  subst ho
  simp only [go_sem,Nat.reduceAdd,Nat.reduceSub,Nat.reduceEqDiff,Nat.reduceLT,Nat.reduceLeDiff,↓reduceIte,Int.reduceToNat,reduceCtorEq,Int.reduceLT,Int.reduceEq,Ins.av,Ins.cells,Sp.av,Rg.av,Rg.cells]
  refine draw [.qu 0 0, .qu 0 0, .qu 0 0, .qu 0 0, .qu 0 0, .qu 0 0] (by kernel_rfl) (by kernel_rfl) ?_
  simp only [go_sem,Nat.reduceAdd,Nat.reduceSub,Nat.reduceEqDiff,Nat.reduceLT,Nat.reduceLeDiff,↓reduceIte,Int.reduceToNat,reduceCtorEq,Int.reduceLT,Int.reduceEq]
  refine y_call (enters_of Tryz.func85 rfl (by decide)) (fun _ => ACalls.pure_use (rilen_c _ hx) rfl rfl) ?_
  simp only [go_sem,Nat.reduceAdd,Nat.reduceSub,Nat.reduceEqDiff,Nat.reduceLT,Nat.reduceLeDiff,↓reduceIte,Int.reduceToNat,reduceCtorEq,Int.reduceLT,Int.reduceEq]
  refine rK_use (enters_of Tryz.func86 rfl (by decide)) (ACalls.pure_use (rfootprint_c _ hx r hr) rfl rfl) ?_
  simp only [go_sem,Nat.reduceAdd,Nat.reduceSub,Nat.reduceEqDiff,Nat.reduceLT,Nat.reduceLeDiff,↓reduceIte,Int.reduceToNat,reduceCtorEq,Int.reduceLT,Int.reduceEq]
  refine rK_use (enters_of Tryz.func87 rfl (by decide)) (ACalls.pure_use (rFault_c s hs (foot ⟨14, xa, xb, imm⟩ r) (foot_len _ r) (foot_size _ r)) rfl rfl) ?_
  simp only [go_sem,Nat.reduceAdd,Nat.reduceSub,Nat.reduceEqDiff,Nat.reduceLT,Nat.reduceLeDiff,↓reduceIte,Int.reduceToNat,reduceCtorEq,Int.reduceLT,Int.reduceEq,Flt.cells,hf]
  refine rK_use (enters_of Tryz.func88 rfl (by decide)) (ACalls.pure_use (isAlu_c 14) rfl rfl) ?_
  rw [show isAlu 14 = true from rfl]
  have hA := ralu_c 14 (r.get xa) (r.get xb) (hr.get _)
  simp only [go_sem,Nat.reduceAdd,Nat.reduceSub,Nat.reduceEqDiff,Nat.reduceLT,Nat.reduceLeDiff,↓reduceIte,Int.reduceToNat,reduceCtorEq,Int.reduceLT,Int.reduceEq]
  refine draw [.qu 0 0, .qu 0 0, .qu 0 0, .qu 0 0, .qu 0 0, .qu 0 0, .qu 0 0, .qu 0 0, .qu 0 0, .qu 0 0, .qu 0 0, .qu 0 0, .qu 0 0, .qu 0 0, .qu 0 0, .qu 0 0, .qu 0 0, .qu 0 0] (by kernel_rfl) (by kernel_rfl) ?_
  simp only [go_sem,Nat.reduceAdd,Nat.reduceSub,Nat.reduceEqDiff,Nat.reduceLT,Nat.reduceLeDiff,↓reduceIte,Int.reduceToNat,reduceCtorEq,Int.reduceLT,Int.reduceEq,Ins.av,Ins.cells,Sp.av,Rg.av,Rg.cells,Eff.cellsD,ha,ha19,hb,hata,hatb,wr0 ha.1 ha.2,trE,Eff.av,Eff.cells]
  cases hal : alu 14 (r.get xa) (r.get xb) with
  | none =>
    rw [hal] at hA
    refine y_call (enters_of Tryz.func89 rfl (by decide)) (fun _ => ACalls.pure_use (hA) rfl rfl) ?_
    simp only [go_sem,Nat.reduceAdd,Nat.reduceSub,Nat.reduceEqDiff,Nat.reduceLT,Nat.reduceLeDiff,↓reduceIte,Int.reduceToNat,reduceCtorEq,Int.reduceLT,Int.reduceEq,Ins.av,Ins.cells,Sp.av,Rg.av,Rg.cells,Eff.cellsD,ha,ha19,hb,hata,hatb,wr0 ha.1 ha.2,trE,Eff.av,Eff.cells,aluV,Option.isSome_none]
    refine rK_use (enters_of Tryz.func84 rfl (by decide)) (ACalls.pure_use (trapped_c ⟨14, xa, xb, imm⟩ r ⟨5, 0, ⟨0, 0⟩⟩) rfl (by simp [AV.lt, ltL, Eff.av_lt])) ?_
    simp only [go_sem,Nat.reduceAdd,Nat.reduceSub,Nat.reduceEqDiff,Nat.reduceLT,Nat.reduceLeDiff,↓reduceIte,Int.reduceToNat,reduceCtorEq,Int.reduceLT,Int.reduceEq,Ins.av,Ins.cells,Sp.av,Rg.av,Rg.cells,Eff.cellsD,ha,ha19,hb,hata,hatb,wr0 ha.1 ha.2,trE,Eff.av,Eff.cells]
    exact fin (trE ⟨14, xa, xb, imm⟩ r ⟨5, 0, ⟨0, 0⟩⟩) _ (by unfold exec; rw [reff_ok hf]; simp [hal, isAlu, tabR, Res.eff, Pr.setA, Pr.toPc, Pr.p1, Pr.start, Pr.set7, o0, m1, m2, m7, mp, trE])
  | some v =>
    rw [hal] at hA
    refine y_call (enters_of Tryz.func89 rfl (by decide)) (fun _ => ACalls.pure_use (hA) rfl rfl) ?_
    simp only [go_sem,Nat.reduceAdd,Nat.reduceSub,Nat.reduceEqDiff,Nat.reduceLT,Nat.reduceLeDiff,↓reduceIte,Int.reduceToNat,reduceCtorEq,Int.reduceLT,Int.reduceEq,Ins.av,Ins.cells,Sp.av,Rg.av,Rg.cells,Eff.cellsD,ha,ha19,hb,hata,hatb,wr0 ha.1 ha.2,trE,Eff.av,Eff.cells,aluV,Option.isSome_some,Option.getD_some]
    exact finN (m1 (o0 ⟨14, xa, xb, imm⟩ r) xa v) _ (by unfold exec; rw [reff_ok hf]; simp [hal, isAlu, tabR, Res.eff, Pr.setA, Pr.toPc, Pr.p1, Pr.start, Pr.set7, o0, m1, m2, m7, mp, trE]) rfl
theorem rx15_c (x : Ins) (hx : x.ok) (ho : x.op = 15) (s : Sp) (hs : s.ok) (r : Rg) (hr : r.wf) (hf : (ffault s (foot x r)).kind = 0) :
    ACalls Tryz.prog 47 [x.av, s.av, r.av] [] (fun u H => u = .ret (exec x s r).av ∧ H = []) := by
  refine ACalls.up ?_
  refine ACalls.intro (cs := []) (n := 175) Tryz.func47 rfl rfl rfl (by kernel_rfl) rfl ?_
  generalize hpost : (fun (u : Out) (H : Heap) => u = Out.ret (exec x s r).av ∧ H = []) = post
  have fin : ∀ (e : Eff) H, e = exec x s r → Up 0 post (.ret e.av) H := fun e H h => finv (Eff.av_lt e 0) (by rw [← hpost, ← h]; exact ⟨rfl, rfl⟩) H
  have finN : ∀ (e : Eff) H, e = exec x s r → e.data = [] → Up 0 post (.ret (.agg (e.cellsD dnil))) H := fun e H h hd => .le (.ret (.agg (leL_dnil e))) (LeH.refl _) (by have := fin e H h; unfold Eff.av Eff.cells at this; rwa [hd] at this)
  have ha : 0 ≤ x.a ∧ x.a < 8 := ⟨hx.a0, by have := hx.a7; omega⟩
  have hb : 0 ≤ x.b ∧ x.b < 8 := ⟨hx.b0, by have := hx.b7; omega⟩
  have ha19 : x.a.toNat + 1 ≤ 19 := by omega
  have hata := r.at hx.a0 hx.a7
  have hatb := r.at hx.b0 hx.b7
  have hfa := ffault0 hf
  obtain ⟨op, xa, xb, imm⟩ := x
  simp only at ho ha hb ha19 hata hatb
  subst ho
  simp only [go_sem,Nat.reduceAdd,Nat.reduceSub,Nat.reduceEqDiff,Nat.reduceLT,Nat.reduceLeDiff,↓reduceIte,Int.reduceToNat,reduceCtorEq,Int.reduceLT,Int.reduceEq,Ins.av,Ins.cells,Sp.av,Rg.av,Rg.cells]
  refine draw [.qu 0 0, .qu 0 0, .qu 0 0, .qu 0 0, .qu 0 0, .qu 0 0] (by kernel_rfl) (by kernel_rfl) ?_
  simp only [go_sem,Nat.reduceAdd,Nat.reduceSub,Nat.reduceEqDiff,Nat.reduceLT,Nat.reduceLeDiff,↓reduceIte,Int.reduceToNat,reduceCtorEq,Int.reduceLT,Int.reduceEq]
  refine y_call (enters_of Tryz.func85 rfl (by decide)) (fun _ => ACalls.pure_use (rilen_c _ hx) rfl rfl) ?_
  simp only [go_sem,Nat.reduceAdd,Nat.reduceSub,Nat.reduceEqDiff,Nat.reduceLT,Nat.reduceLeDiff,↓reduceIte,Int.reduceToNat,reduceCtorEq,Int.reduceLT,Int.reduceEq]
  refine rK_use (enters_of Tryz.func86 rfl (by decide)) (ACalls.pure_use (rfootprint_c _ hx r hr) rfl rfl) ?_
  simp only [go_sem,Nat.reduceAdd,Nat.reduceSub,Nat.reduceEqDiff,Nat.reduceLT,Nat.reduceLeDiff,↓reduceIte,Int.reduceToNat,reduceCtorEq,Int.reduceLT,Int.reduceEq]
  refine rK_use (enters_of Tryz.func87 rfl (by decide)) (ACalls.pure_use (rFault_c s hs (foot ⟨15, xa, xb, imm⟩ r) (foot_len _ r) (foot_size _ r)) rfl rfl) ?_
  simp only [go_sem,Nat.reduceAdd,Nat.reduceSub,Nat.reduceEqDiff,Nat.reduceLT,Nat.reduceLeDiff,↓reduceIte,Int.reduceToNat,reduceCtorEq,Int.reduceLT,Int.reduceEq,Flt.cells,hf]
  refine rK_use (enters_of Tryz.func88 rfl (by decide)) (ACalls.pure_use (isAlu_c 15) rfl rfl) ?_
  rw [show isAlu 15 = true from rfl]
  have hA := ralu_c 15 (r.get xa) (r.get xb) (hr.get _)
  simp only [go_sem,Nat.reduceAdd,Nat.reduceSub,Nat.reduceEqDiff,Nat.reduceLT,Nat.reduceLeDiff,↓reduceIte,Int.reduceToNat,reduceCtorEq,Int.reduceLT,Int.reduceEq]
  refine draw [.qu 0 0, .qu 0 0, .qu 0 0, .qu 0 0, .qu 0 0, .qu 0 0, .qu 0 0, .qu 0 0, .qu 0 0, .qu 0 0, .qu 0 0, .qu 0 0, .qu 0 0, .qu 0 0, .qu 0 0, .qu 0 0, .qu 0 0, .qu 0 0] (by kernel_rfl) (by kernel_rfl) ?_
  simp only [go_sem,Nat.reduceAdd,Nat.reduceSub,Nat.reduceEqDiff,Nat.reduceLT,Nat.reduceLeDiff,↓reduceIte,Int.reduceToNat,reduceCtorEq,Int.reduceLT,Int.reduceEq,Ins.av,Ins.cells,Sp.av,Rg.av,Rg.cells,Eff.cellsD,ha,ha19,hb,hata,hatb,wr0 ha.1 ha.2,trE,Eff.av,Eff.cells]
  cases hal : alu 15 (r.get xa) (r.get xb) with
  | none =>
    rw [hal] at hA
    refine y_call (enters_of Tryz.func89 rfl (by decide)) (fun _ => ACalls.pure_use (hA) rfl rfl) ?_
    simp only [go_sem,Nat.reduceAdd,Nat.reduceSub,Nat.reduceEqDiff,Nat.reduceLT,Nat.reduceLeDiff,↓reduceIte,Int.reduceToNat,reduceCtorEq,Int.reduceLT,Int.reduceEq,Ins.av,Ins.cells,Sp.av,Rg.av,Rg.cells,Eff.cellsD,ha,ha19,hb,hata,hatb,wr0 ha.1 ha.2,trE,Eff.av,Eff.cells,aluV,Option.isSome_none]
    refine rK_use (enters_of Tryz.func84 rfl (by decide)) (ACalls.pure_use (trapped_c ⟨15, xa, xb, imm⟩ r ⟨5, 0, ⟨0, 0⟩⟩) rfl (by simp [AV.lt, ltL, Eff.av_lt])) ?_
    simp only [go_sem,Nat.reduceAdd,Nat.reduceSub,Nat.reduceEqDiff,Nat.reduceLT,Nat.reduceLeDiff,↓reduceIte,Int.reduceToNat,reduceCtorEq,Int.reduceLT,Int.reduceEq,Ins.av,Ins.cells,Sp.av,Rg.av,Rg.cells,Eff.cellsD,ha,ha19,hb,hata,hatb,wr0 ha.1 ha.2,trE,Eff.av,Eff.cells]
    exact fin (trE ⟨15, xa, xb, imm⟩ r ⟨5, 0, ⟨0, 0⟩⟩) _ (by unfold exec; rw [reff_ok hf]; simp [hal, isAlu, tabR, Res.eff, Pr.setA, Pr.toPc, Pr.p1, Pr.start, Pr.set7, o0, m1, m2, m7, mp, trE])
  | some v =>
    rw [hal] at hA
    refine y_call (enters_of Tryz.func89 rfl (by decide)) (fun _ => ACalls.pure_use (hA) rfl rfl) ?_
    simp only [go_sem,Nat.reduceAdd,Nat.reduceSub,Nat.reduceEqDiff,Nat.reduceLT,Nat.reduceLeDiff,↓reduceIte,Int.reduceToNat,reduceCtorEq,Int.reduceLT,Int.reduceEq,Ins.av,Ins.cells,Sp.av,Rg.av,Rg.cells,Eff.cellsD,ha,ha19,hb,hata,hatb,wr0 ha.1 ha.2,trE,Eff.av,Eff.cells,aluV,Option.isSome_some,Option.getD_some]
    exact finN (m1 (o0 ⟨15, xa, xb, imm⟩ r) xa v) _ (by unfold exec; rw [reff_ok hf]; simp [hal, isAlu, tabR, Res.eff, Pr.setA, Pr.toPc, Pr.p1, Pr.start, Pr.set7, o0, m1, m2, m7, mp, trE]) rfl
theorem rx1_c (x : Ins) (hx : x.ok) (ho : x.op = 1) (s : Sp) (hs : s.ok) (r : Rg) (hr : r.wf) (hf : (ffault s (foot x r)).kind = 0) :
    ACalls Tryz.prog 47 [x.av, s.av, r.av] [] (fun u H => u = .ret (exec x s r).av ∧ H = []) := by
  refine ACalls.up ?_
  refine ACalls.intro (cs := []) (n := 175) Tryz.func47 rfl rfl rfl (by kernel_rfl) rfl ?_
  generalize hpost : (fun (u : Out) (H : Heap) => u = Out.ret (exec x s r).av ∧ H = []) = post
  have fin : ∀ (e : Eff) H, e = exec x s r → Up 0 post (.ret e.av) H := fun e H h => finv (Eff.av_lt e 0) (by rw [← hpost, ← h]; exact ⟨rfl, rfl⟩) H
  have finN : ∀ (e : Eff) H, e = exec x s r → e.data = [] → Up 0 post (.ret (.agg (e.cellsD dnil))) H := fun e H h hd => .le (.ret (.agg (leL_dnil e))) (LeH.refl _) (by have := fin e H h; unfold Eff.av Eff.cells at this; rwa [hd] at this)
  have ha : 0 ≤ x.a ∧ x.a < 8 := ⟨hx.a0, by have := hx.a7; omega⟩
  have hb : 0 ≤ x.b ∧ x.b < 8 := ⟨hx.b0, by have := hx.b7; omega⟩
  have ha19 : x.a.toNat + 1 ≤ 19 := by omega
  have hata := r.at hx.a0 hx.a7
  have hatb := r.at hx.b0 hx.b7
  have hfa := ffault0 hf
  obtain ⟨op, xa, xb, imm⟩ := x
  simp only at ho ha hb ha19 hata hatb
  subst ho
  simp only [go_sem,Nat.reduceAdd,Nat.reduceSub,Nat.reduceEqDiff,Nat.reduceLT,Nat.reduceLeDiff,↓reduceIte,Int.reduceToNat,reduceCtorEq,Int.reduceLT,Int.reduceEq,Ins.av,Ins.cells,Sp.av,Rg.av,Rg.cells]
  refine draw [.qu 0 0, .qu 0 0, .qu 0 0, .qu 0 0, .qu 0 0, .qu 0 0] (by kernel_rfl) (by kernel_rfl) ?_
  simp only [go_sem,Nat.reduceAdd,Nat.reduceSub,Nat.reduceEqDiff,Nat.reduceLT,Nat.reduceLeDiff,↓reduceIte,Int.reduceToNat,reduceCtorEq,Int.reduceLT,Int.reduceEq]
  refine y_call (enters_of Tryz.func85 rfl (by decide)) (fun _ => ACalls.pure_use (rilen_c _ hx) rfl rfl) ?_
  simp only [go_sem,Nat.reduceAdd,Nat.reduceSub,Nat.reduceEqDiff,Nat.reduceLT,Nat.reduceLeDiff,↓reduceIte,Int.reduceToNat,reduceCtorEq,Int.reduceLT,Int.reduceEq]
  refine rK_use (enters_of Tryz.func86 rfl (by decide)) (ACalls.pure_use (rfootprint_c _ hx r hr) rfl rfl) ?_
  simp only [go_sem,Nat.reduceAdd,Nat.reduceSub,Nat.reduceEqDiff,Nat.reduceLT,Nat.reduceLeDiff,↓reduceIte,Int.reduceToNat,reduceCtorEq,Int.reduceLT,Int.reduceEq]
  refine rK_use (enters_of Tryz.func87 rfl (by decide)) (ACalls.pure_use (rFault_c s hs (foot ⟨1, xa, xb, imm⟩ r) (foot_len _ r) (foot_size _ r)) rfl rfl) ?_
  simp only [go_sem,Nat.reduceAdd,Nat.reduceSub,Nat.reduceEqDiff,Nat.reduceLT,Nat.reduceLeDiff,↓reduceIte,Int.reduceToNat,reduceCtorEq,Int.reduceLT,Int.reduceEq,Flt.cells,hf]
  refine rK_use (enters_of Tryz.func88 rfl (by decide)) (ACalls.pure_use (isAlu_c 1) rfl rfl) ?_
  have ht : Ins.hasT ⟨1, xa, xb, imm⟩ = false := by simp [Ins.hasT, isBr]
  have hfo : foot ⟨1, xa, xb, imm⟩ r = [] := by simp [foot]
  rw [show isAlu 1 = false from rfl]
  simp only [go_sem,Nat.reduceAdd,Nat.reduceSub,Nat.reduceEqDiff,Nat.reduceLT,Nat.reduceLeDiff,↓reduceIte,Int.reduceToNat,reduceCtorEq,Int.reduceLT,Int.reduceEq,Ins.av,Ins.cells,Sp.av,Rg.av,Rg.cells,Eff.cellsD,ha,ha19,hb,hata,hatb,wr0 ha.1 ha.2,trE,Eff.av,Eff.cells]
  refine rK_use (enters_of Tryz.func90 rfl (by decide)) (ACalls.pure_use (rtarget_c _ hx _) rfl rfl) ?_
  rw [ht]
  simp only [go_sem,Nat.reduceAdd,Nat.reduceSub,Nat.reduceEqDiff,Nat.reduceLT,Nat.reduceLeDiff,↓reduceIte,Int.reduceToNat,reduceCtorEq,Int.reduceLT,Int.reduceEq,Ins.av,Ins.cells,Sp.av,Rg.av,Rg.cells,Eff.cellsD,ha,ha19,hb,hata,hatb,wr0 ha.1 ha.2,trE,Eff.av,Eff.cells,hfo,Acc.row,List.length_map,o0,m1,m2,m7,mp,Rg.set]
  exact finN (o0 ⟨1, xa, xb, imm⟩ r) _ (by unfold exec; rw [reff_ok hf]; simp [isAlu, tabR, Res.eff, Pr.setA, Pr.toPc, Pr.p1, Pr.start, Pr.set7, o0, m1, m2, m7, mp, trE]) rfl
theorem rx2_c (x : Ins) (hx : x.ok) (ho : x.op = 2) (s : Sp) (hs : s.ok) (r : Rg) (hr : r.wf) (hf : (ffault s (foot x r)).kind = 0) :
    ACalls Tryz.prog 47 [x.av, s.av, r.av] [] (fun u H => u = .ret (exec x s r).av ∧ H = []) := by
  refine ACalls.up ?_
  refine ACalls.intro (cs := []) (n := 175) Tryz.func47 rfl rfl rfl (by kernel_rfl) rfl ?_
  generalize hpost : (fun (u : Out) (H : Heap) => u = Out.ret (exec x s r).av ∧ H = []) = post
  have fin : ∀ (e : Eff) H, e = exec x s r → Up 0 post (.ret e.av) H := fun e H h => finv (Eff.av_lt e 0) (by rw [← hpost, ← h]; exact ⟨rfl, rfl⟩) H
  have finN : ∀ (e : Eff) H, e = exec x s r → e.data = [] → Up 0 post (.ret (.agg (e.cellsD dnil))) H := fun e H h hd => .le (.ret (.agg (leL_dnil e))) (LeH.refl _) (by have := fin e H h; unfold Eff.av Eff.cells at this; rwa [hd] at this)
  have ha : 0 ≤ x.a ∧ x.a < 8 := ⟨hx.a0, by have := hx.a7; omega⟩
  have hb : 0 ≤ x.b ∧ x.b < 8 := ⟨hx.b0, by have := hx.b7; omega⟩
  have ha19 : x.a.toNat + 1 ≤ 19 := by omega
  have hata := r.at hx.a0 hx.a7
  have hatb := r.at hx.b0 hx.b7
  have hfa := ffault0 hf
  obtain ⟨op, xa, xb, imm⟩ := x
  simp only at ho ha hb ha19 hata hatb
  subst ho
  simp only [go_sem,Nat.reduceAdd,Nat.reduceSub,Nat.reduceEqDiff,Nat.reduceLT,Nat.reduceLeDiff,↓reduceIte,Int.reduceToNat,reduceCtorEq,Int.reduceLT,Int.reduceEq,Ins.av,Ins.cells,Sp.av,Rg.av,Rg.cells]
  refine draw [.qu 0 0, .qu 0 0, .qu 0 0, .qu 0 0, .qu 0 0, .qu 0 0] (by kernel_rfl) (by kernel_rfl) ?_
  simp only [go_sem,Nat.reduceAdd,Nat.reduceSub,Nat.reduceEqDiff,Nat.reduceLT,Nat.reduceLeDiff,↓reduceIte,Int.reduceToNat,reduceCtorEq,Int.reduceLT,Int.reduceEq]
  refine y_call (enters_of Tryz.func85 rfl (by decide)) (fun _ => ACalls.pure_use (rilen_c _ hx) rfl rfl) ?_
  simp only [go_sem,Nat.reduceAdd,Nat.reduceSub,Nat.reduceEqDiff,Nat.reduceLT,Nat.reduceLeDiff,↓reduceIte,Int.reduceToNat,reduceCtorEq,Int.reduceLT,Int.reduceEq]
  refine rK_use (enters_of Tryz.func86 rfl (by decide)) (ACalls.pure_use (rfootprint_c _ hx r hr) rfl rfl) ?_
  simp only [go_sem,Nat.reduceAdd,Nat.reduceSub,Nat.reduceEqDiff,Nat.reduceLT,Nat.reduceLeDiff,↓reduceIte,Int.reduceToNat,reduceCtorEq,Int.reduceLT,Int.reduceEq]
  refine rK_use (enters_of Tryz.func87 rfl (by decide)) (ACalls.pure_use (rFault_c s hs (foot ⟨2, xa, xb, imm⟩ r) (foot_len _ r) (foot_size _ r)) rfl rfl) ?_
  simp only [go_sem,Nat.reduceAdd,Nat.reduceSub,Nat.reduceEqDiff,Nat.reduceLT,Nat.reduceLeDiff,↓reduceIte,Int.reduceToNat,reduceCtorEq,Int.reduceLT,Int.reduceEq,Flt.cells,hf]
  refine rK_use (enters_of Tryz.func88 rfl (by decide)) (ACalls.pure_use (isAlu_c 2) rfl rfl) ?_
  have ht : Ins.hasT ⟨2, xa, xb, imm⟩ = false := by simp [Ins.hasT, isBr]
  have hfo : foot ⟨2, xa, xb, imm⟩ r = [] := by simp [foot]
  rw [show isAlu 2 = false from rfl]
  simp only [go_sem,Nat.reduceAdd,Nat.reduceSub,Nat.reduceEqDiff,Nat.reduceLT,Nat.reduceLeDiff,↓reduceIte,Int.reduceToNat,reduceCtorEq,Int.reduceLT,Int.reduceEq,Ins.av,Ins.cells,Sp.av,Rg.av,Rg.cells,Eff.cellsD,ha,ha19,hb,hata,hatb,wr0 ha.1 ha.2,trE,Eff.av,Eff.cells]
  refine rK_use (enters_of Tryz.func90 rfl (by decide)) (ACalls.pure_use (rtarget_c _ hx _) rfl rfl) ?_
  rw [ht]
  simp only [go_sem,Nat.reduceAdd,Nat.reduceSub,Nat.reduceEqDiff,Nat.reduceLT,Nat.reduceLeDiff,↓reduceIte,Int.reduceToNat,reduceCtorEq,Int.reduceLT,Int.reduceEq,Ins.av,Ins.cells,Sp.av,Rg.av,Rg.cells,Eff.cellsD,ha,ha19,hb,hata,hatb,wr0 ha.1 ha.2,trE,Eff.av,Eff.cells,hfo,Acc.row,List.length_map,o0,m1,m2,m7,mp,Rg.set]
  refine draw [.qu 0 0, .qu 0 0, .qu 0 0, .qu 0 0, .qu 0 0, .qu 0 0, .qu 0 0, .qu 0 0, .qu 0 0, .qu 0 0, .mn 0] (by kernel_rfl) (by kernel_rfl) ?_
  simp only [go_sem,Nat.reduceAdd,Nat.reduceSub,Nat.reduceEqDiff,Nat.reduceLT,Nat.reduceLeDiff,↓reduceIte,Int.reduceToNat,reduceCtorEq,Int.reduceLT,Int.reduceEq,Ins.av,Ins.cells,Sp.av,Rg.av,Rg.cells,Eff.cellsD,ha,ha19,hb,hata,hatb,wr0 ha.1 ha.2,trE,Eff.av,Eff.cells,hfo,Acc.row,List.length_map,o0,m1,m2,m7,mp,Rg.set]
  exact finN (m1 (o0 ⟨2, xa, xb, imm⟩ r) xa (r.get xb)) _ (by unfold exec; rw [reff_ok hf]; simp [isAlu, tabR, Res.eff, Pr.setA, Pr.toPc, Pr.p1, Pr.start, Pr.set7, o0, m1, m2, m7, mp, trE]) rfl
theorem rx3_c (x : Ins) (hx : x.ok) (ho : x.op = 3) (s : Sp) (hs : s.ok) (r : Rg) (hr : r.wf) (hf : (ffault s (foot x r)).kind = 0) :
    ACalls Tryz.prog 47 [x.av, s.av, r.av] [] (fun u H => u = .ret (exec x s r).av ∧ H = []) := by
  refine ACalls.up ?_
  refine ACalls.intro (cs := []) (n := 175) Tryz.func47 rfl rfl rfl (by kernel_rfl) rfl ?_
  generalize hpost : (fun (u : Out) (H : Heap) => u = Out.ret (exec x s r).av ∧ H = []) = post
  have fin : ∀ (e : Eff) H, e = exec x s r → Up 0 post (.ret e.av) H := fun e H h => finv (Eff.av_lt e 0) (by rw [← hpost, ← h]; exact ⟨rfl, rfl⟩) H
  have finN : ∀ (e : Eff) H, e = exec x s r → e.data = [] → Up 0 post (.ret (.agg (e.cellsD dnil))) H := fun e H h hd => .le (.ret (.agg (leL_dnil e))) (LeH.refl _) (by have := fin e H h; unfold Eff.av Eff.cells at this; rwa [hd] at this)
  have ha : 0 ≤ x.a ∧ x.a < 8 := ⟨hx.a0, by have := hx.a7; omega⟩
  have hb : 0 ≤ x.b ∧ x.b < 8 := ⟨hx.b0, by have := hx.b7; omega⟩
  have ha19 : x.a.toNat + 1 ≤ 19 := by omega
  have hata := r.at hx.a0 hx.a7
  have hatb := r.at hx.b0 hx.b7
  have hfa := ffault0 hf
  obtain ⟨op, xa, xb, imm⟩ := x
  simp only at ho ha hb ha19 hata hatb
  subst ho
  simp only [go_sem,Nat.reduceAdd,Nat.reduceSub,Nat.reduceEqDiff,Nat.reduceLT,Nat.reduceLeDiff,↓reduceIte,Int.reduceToNat,reduceCtorEq,Int.reduceLT,Int.reduceEq,Ins.av,Ins.cells,Sp.av,Rg.av,Rg.cells]
  refine draw [.qu 0 0, .qu 0 0, .qu 0 0, .qu 0 0, .qu 0 0, .qu 0 0] (by kernel_rfl) (by kernel_rfl) ?_
  simp only [go_sem,Nat.reduceAdd,Nat.reduceSub,Nat.reduceEqDiff,Nat.reduceLT,Nat.reduceLeDiff,↓reduceIte,Int.reduceToNat,reduceCtorEq,Int.reduceLT,Int.reduceEq]
  refine y_call (enters_of Tryz.func85 rfl (by decide)) (fun _ => ACalls.pure_use (rilen_c _ hx) rfl rfl) ?_
  simp only [go_sem,Nat.reduceAdd,Nat.reduceSub,Nat.reduceEqDiff,Nat.reduceLT,Nat.reduceLeDiff,↓reduceIte,Int.reduceToNat,reduceCtorEq,Int.reduceLT,Int.reduceEq]
  refine rK_use (enters_of Tryz.func86 rfl (by decide)) (ACalls.pure_use (rfootprint_c _ hx r hr) rfl rfl) ?_
  simp only [go_sem,Nat.reduceAdd,Nat.reduceSub,Nat.reduceEqDiff,Nat.reduceLT,Nat.reduceLeDiff,↓reduceIte,Int.reduceToNat,reduceCtorEq,Int.reduceLT,Int.reduceEq]
  refine rK_use (enters_of Tryz.func87 rfl (by decide)) (ACalls.pure_use (rFault_c s hs (foot ⟨3, xa, xb, imm⟩ r) (foot_len _ r) (foot_size _ r)) rfl rfl) ?_
  simp only [go_sem,Nat.reduceAdd,Nat.reduceSub,Nat.reduceEqDiff,Nat.reduceLT,Nat.reduceLeDiff,↓reduceIte,Int.reduceToNat,reduceCtorEq,Int.reduceLT,Int.reduceEq,Flt.cells,hf]
  refine rK_use (enters_of Tryz.func88 rfl (by decide)) (ACalls.pure_use (isAlu_c 3) rfl rfl) ?_
  have ht : Ins.hasT ⟨3, xa, xb, imm⟩ = false := by simp [Ins.hasT, isBr]
  have hfo : foot ⟨3, xa, xb, imm⟩ r = [] := by simp [foot]
  rw [show isAlu 3 = false from rfl]
  simp only [go_sem,Nat.reduceAdd,Nat.reduceSub,Nat.reduceEqDiff,Nat.reduceLT,Nat.reduceLeDiff,↓reduceIte,Int.reduceToNat,reduceCtorEq,Int.reduceLT,Int.reduceEq,Ins.av,Ins.cells,Sp.av,Rg.av,Rg.cells,Eff.cellsD,ha,ha19,hb,hata,hatb,wr0 ha.1 ha.2,trE,Eff.av,Eff.cells]
  refine rK_use (enters_of Tryz.func90 rfl (by decide)) (ACalls.pure_use (rtarget_c _ hx _) rfl rfl) ?_
  rw [ht]
  simp only [go_sem,Nat.reduceAdd,Nat.reduceSub,Nat.reduceEqDiff,Nat.reduceLT,Nat.reduceLeDiff,↓reduceIte,Int.reduceToNat,reduceCtorEq,Int.reduceLT,Int.reduceEq,Ins.av,Ins.cells,Sp.av,Rg.av,Rg.cells,Eff.cellsD,ha,ha19,hb,hata,hatb,wr0 ha.1 ha.2,trE,Eff.av,Eff.cells,hfo,Acc.row,List.length_map,o0,m1,m2,m7,mp,Rg.set]
  exact finN (m1 (o0 ⟨3, xa, xb, imm⟩ r) xa imm) _ (by unfold exec; rw [reff_ok hf]; simp [isAlu, tabR, Res.eff, Pr.setA, Pr.toPc, Pr.p1, Pr.start, Pr.set7, o0, m1, m2, m7, mp, trE]) rfl
theorem rx4_c (x : Ins) (hx : x.ok) (ho : x.op = 4) (s : Sp) (hs : s.ok) (r : Rg) (hr : r.wf) (hf : (ffault s (foot x r)).kind = 0) :
    ACalls Tryz.prog 47 [x.av, s.av, r.av] [] (fun u H => u = .ret (exec x s r).av ∧ H = []) := by
  refine ACalls.up ?_
  refine ACalls.intro (cs := []) (n := 175) Tryz.func47 rfl rfl rfl (by kernel_rfl) rfl ?_
  generalize hpost : (fun (u : Out) (H : Heap) => u = Out.ret (exec x s r).av ∧ H = []) = post
  have fin : ∀ (e : Eff) H, e = exec x s r → Up 0 post (.ret e.av) H := fun e H h => finv (Eff.av_lt e 0) (by rw [← hpost, ← h]; exact ⟨rfl, rfl⟩) H
  have finN : ∀ (e : Eff) H, e = exec x s r → e.data = [] → Up 0 post (.ret (.agg (e.cellsD dnil))) H := fun e H h hd => .le (.ret (.agg (leL_dnil e))) (LeH.refl _) (by have := fin e H h; unfold Eff.av Eff.cells at this; rwa [hd] at this)
  have ha : 0 ≤ x.a ∧ x.a < 8 := ⟨hx.a0, by have := hx.a7; omega⟩
  have hb : 0 ≤ x.b ∧ x.b < 8 := ⟨hx.b0, by have := hx.b7; omega⟩
  have ha19 : x.a.toNat + 1 ≤ 19 := by omega
  have hata := r.at hx.a0 hx.a7
  have hatb := r.at hx.b0 hx.b7
  have hfa := ffault0 hf
  obtain ⟨op, xa, xb, imm⟩ := x
  simp only at ho ha hb ha19 hata hatb
  subst ho
  simp only [go_sem,Nat.reduceAdd,Nat.reduceSub,Nat.reduceEqDiff,Nat.reduceLT,Nat.reduceLeDiff,↓reduceIte,Int.reduceToNat,reduceCtorEq,Int.reduceLT,Int.reduceEq,Ins.av,Ins.cells,Sp.av,Rg.av,Rg.cells]
  refine draw [.qu 0 0, .qu 0 0, .qu 0 0, .qu 0 0, .qu 0 0, .qu 0 0] (by kernel_rfl) (by kernel_rfl) ?_
  simp only [go_sem,Nat.reduceAdd,Nat.reduceSub,Nat.reduceEqDiff,Nat.reduceLT,Nat.reduceLeDiff,↓reduceIte,Int.reduceToNat,reduceCtorEq,Int.reduceLT,Int.reduceEq]
  refine y_call (enters_of Tryz.func85 rfl (by decide)) (fun _ => ACalls.pure_use (rilen_c _ hx) rfl rfl) ?_
  simp only [go_sem,Nat.reduceAdd,Nat.reduceSub,Nat.reduceEqDiff,Nat.reduceLT,Nat.reduceLeDiff,↓reduceIte,Int.reduceToNat,reduceCtorEq,Int.reduceLT,Int.reduceEq]
  refine rK_use (enters_of Tryz.func86 rfl (by decide)) (ACalls.pure_use (rfootprint_c _ hx r hr) rfl rfl) ?_
  simp only [go_sem,Nat.reduceAdd,Nat.reduceSub,Nat.reduceEqDiff,Nat.reduceLT,Nat.reduceLeDiff,↓reduceIte,Int.reduceToNat,reduceCtorEq,Int.reduceLT,Int.reduceEq]
  refine rK_use (enters_of Tryz.func87 rfl (by decide)) (ACalls.pure_use (rFault_c s hs (foot ⟨4, xa, xb, imm⟩ r) (foot_len _ r) (foot_size _ r)) rfl rfl) ?_
  simp only [go_sem,Nat.reduceAdd,Nat.reduceSub,Nat.reduceEqDiff,Nat.reduceLT,Nat.reduceLeDiff,↓reduceIte,Int.reduceToNat,reduceCtorEq,Int.reduceLT,Int.reduceEq,Flt.cells,hf]
  refine rK_use (enters_of Tryz.func88 rfl (by decide)) (ACalls.pure_use (isAlu_c 4) rfl rfl) ?_
  have ht : Ins.hasT ⟨4, xa, xb, imm⟩ = false := by simp [Ins.hasT, isBr]
  have hfo : foot ⟨4, xa, xb, imm⟩ r = [] := by simp [foot]
  rw [show isAlu 4 = false from rfl]
  simp only [go_sem,Nat.reduceAdd,Nat.reduceSub,Nat.reduceEqDiff,Nat.reduceLT,Nat.reduceLeDiff,↓reduceIte,Int.reduceToNat,reduceCtorEq,Int.reduceLT,Int.reduceEq,Ins.av,Ins.cells,Sp.av,Rg.av,Rg.cells,Eff.cellsD,ha,ha19,hb,hata,hatb,wr0 ha.1 ha.2,trE,Eff.av,Eff.cells]
  refine rK_use (enters_of Tryz.func90 rfl (by decide)) (ACalls.pure_use (rtarget_c _ hx _) rfl rfl) ?_
  rw [ht]
  simp only [go_sem,Nat.reduceAdd,Nat.reduceSub,Nat.reduceEqDiff,Nat.reduceLT,Nat.reduceLeDiff,↓reduceIte,Int.reduceToNat,reduceCtorEq,Int.reduceLT,Int.reduceEq,Ins.av,Ins.cells,Sp.av,Rg.av,Rg.cells,Eff.cellsD,ha,ha19,hb,hata,hatb,wr0 ha.1 ha.2,trE,Eff.av,Eff.cells,hfo,Acc.row,List.length_map,o0,m1,m2,m7,mp,Rg.set]
  exact finN (m1 (o0 ⟨4, xa, xb, imm⟩ r) xa imm) _ (by unfold exec; rw [reff_ok hf]; simp [isAlu, tabR, Res.eff, Pr.setA, Pr.toPc, Pr.p1, Pr.start, Pr.set7, o0, m1, m2, m7, mp, trE]) rfl
theorem rx16_c (x : Ins) (hx : x.ok) (ho : x.op = 16) (s : Sp) (hs : s.ok) (r : Rg) (hr : r.wf) (hf : (ffault s (foot x r)).kind = 0) :
    ACalls Tryz.prog 47 [x.av, s.av, r.av] [] (fun u H => u = .ret (exec x s r).av ∧ H = []) := by
  refine ACalls.up ?_
  refine ACalls.intro (cs := []) (n := 175) Tryz.func47 rfl rfl rfl (by kernel_rfl) rfl ?_
  generalize hpost : (fun (u : Out) (H : Heap) => u = Out.ret (exec x s r).av ∧ H = []) = post
  have fin : ∀ (e : Eff) H, e = exec x s r → Up 0 post (.ret e.av) H := fun e H h => finv (Eff.av_lt e 0) (by rw [← hpost, ← h]; exact ⟨rfl, rfl⟩) H
  have finN : ∀ (e : Eff) H, e = exec x s r → e.data = [] → Up 0 post (.ret (.agg (e.cellsD dnil))) H := fun e H h hd => .le (.ret (.agg (leL_dnil e))) (LeH.refl _) (by have := fin e H h; unfold Eff.av Eff.cells at this; rwa [hd] at this)
  have ha : 0 ≤ x.a ∧ x.a < 8 := ⟨hx.a0, by have := hx.a7; omega⟩
  have hb : 0 ≤ x.b ∧ x.b < 8 := ⟨hx.b0, by have := hx.b7; omega⟩
  have ha19 : x.a.toNat + 1 ≤ 19 := by omega
  have hata := r.at hx.a0 hx.a7
  have hatb := r.at hx.b0 hx.b7
  have hfa := ffault0 hf
  obtain ⟨op, xa, xb, imm⟩ := x
  simp only at ho ha hb ha19 hata hatb
  subst ho
  simp only [go_sem,Nat.reduceAdd,Nat.reduceSub,Nat.reduceEqDiff,Nat.reduceLT,Nat.reduceLeDiff,↓reduceIte,Int.reduceToNat,reduceCtorEq,Int.reduceLT,Int.reduceEq,Ins.av,Ins.cells,Sp.av,Rg.av,Rg.cells]
  refine draw [.qu 0 0, .qu 0 0, .qu 0 0, .qu 0 0, .qu 0 0, .qu 0 0] (by kernel_rfl) (by kernel_rfl) ?_
  simp only [go_sem,Nat.reduceAdd,Nat.reduceSub,Nat.reduceEqDiff,Nat.reduceLT,Nat.reduceLeDiff,↓reduceIte,Int.reduceToNat,reduceCtorEq,Int.reduceLT,Int.reduceEq]
  refine y_call (enters_of Tryz.func85 rfl (by decide)) (fun _ => ACalls.pure_use (rilen_c _ hx) rfl rfl) ?_
  simp only [go_sem,Nat.reduceAdd,Nat.reduceSub,Nat.reduceEqDiff,Nat.reduceLT,Nat.reduceLeDiff,↓reduceIte,Int.reduceToNat,reduceCtorEq,Int.reduceLT,Int.reduceEq]
  refine rK_use (enters_of Tryz.func86 rfl (by decide)) (ACalls.pure_use (rfootprint_c _ hx r hr) rfl rfl) ?_
  simp only [go_sem,Nat.reduceAdd,Nat.reduceSub,Nat.reduceEqDiff,Nat.reduceLT,Nat.reduceLeDiff,↓reduceIte,Int.reduceToNat,reduceCtorEq,Int.reduceLT,Int.reduceEq]
  refine rK_use (enters_of Tryz.func87 rfl (by decide)) (ACalls.pure_use (rFault_c s hs (foot ⟨16, xa, xb, imm⟩ r) (foot_len _ r) (foot_size _ r)) rfl rfl) ?_
  simp only [go_sem,Nat.reduceAdd,Nat.reduceSub,Nat.reduceEqDiff,Nat.reduceLT,Nat.reduceLeDiff,↓reduceIte,Int.reduceToNat,reduceCtorEq,Int.reduceLT,Int.reduceEq,Flt.cells,hf]
  refine rK_use (enters_of Tryz.func88 rfl (by decide)) (ACalls.pure_use (isAlu_c 16) rfl rfl) ?_
  have ht : Ins.hasT ⟨16, xa, xb, imm⟩ = false := by simp [Ins.hasT, isBr]
  have hfo : foot ⟨16, xa, xb, imm⟩ r = [] := by simp [foot]
  rw [show isAlu 16 = false from rfl]
  simp only [go_sem,Nat.reduceAdd,Nat.reduceSub,Nat.reduceEqDiff,Nat.reduceLT,Nat.reduceLeDiff,↓reduceIte,Int.reduceToNat,reduceCtorEq,Int.reduceLT,Int.reduceEq,Ins.av,Ins.cells,Sp.av,Rg.av,Rg.cells,Eff.cellsD,ha,ha19,hb,hata,hatb,wr0 ha.1 ha.2,trE,Eff.av,Eff.cells]
  refine rK_use (enters_of Tryz.func90 rfl (by decide)) (ACalls.pure_use (rtarget_c _ hx _) rfl rfl) ?_
  rw [ht]
  simp only [go_sem,Nat.reduceAdd,Nat.reduceSub,Nat.reduceEqDiff,Nat.reduceLT,Nat.reduceLeDiff,↓reduceIte,Int.reduceToNat,reduceCtorEq,Int.reduceLT,Int.reduceEq,Ins.av,Ins.cells,Sp.av,Rg.av,Rg.cells,Eff.cellsD,ha,ha19,hb,hata,hatb,wr0 ha.1 ha.2,trE,Eff.av,Eff.cells,hfo,Acc.row,List.length_map,o0,m1,m2,m7,mp,Rg.set]
  refine draw [.qu 0 0, .qu 0 0, .qu 0 0, .qu 0 0, .qu 0 0, .qu 0 0, .qu 0 0, .qu 0 0, .qu 0 0, .qu 0 0, .qu 0 0, .qu 0 0, .qu 0 0, .mn 0] (by kernel_rfl) (by kernel_rfl) ?_
  simp only [go_sem,Nat.reduceAdd,Nat.reduceSub,Nat.reduceEqDiff,Nat.reduceLT,Nat.reduceLeDiff,↓reduceIte,Int.reduceToNat,reduceCtorEq,Int.reduceLT,Int.reduceEq,Ins.av,Ins.cells,Sp.av,Rg.av,Rg.cells,Eff.cellsD,ha,ha19,hb,hata,hatb,wr0 ha.1 ha.2,trE,Eff.av,Eff.cells,hfo,Acc.row,List.length_map,o0,m1,m2,m7,mp,Rg.set]
  exact finN (m1 (o0 ⟨16, xa, xb, imm⟩ r) xa (iw .i64 (r.get xa + imm))) _ (by unfold exec; rw [reff_ok hf]; simp [isAlu, tabR, Res.eff, Pr.setA, Pr.toPc, Pr.p1, Pr.start, Pr.set7, o0, m1, m2, m7, mp, trE]) rfl
theorem rx26_c (x : Ins) (hx : x.ok) (ho : x.op = 26) (s : Sp) (hs : s.ok) (r : Rg) (hr : r.wf) (hf : (ffault s (foot x r)).kind = 0) :
    ACalls Tryz.prog 47 [x.av, s.av, r.av] [] (fun u H => u = .ret (exec x s r).av ∧ H = []) := by
  refine ACalls.up ?_
  refine ACalls.intro (cs := []) (n := 175) Tryz.func47 rfl rfl rfl (by kernel_rfl) rfl ?_
  generalize hpost : (fun (u : Out) (H : Heap) => u = Out.ret (exec x s r).av ∧ H = []) = post
  have fin : ∀ (e : Eff) H, e = exec x s r → Up 0 post (.ret e.av) H := fun e H h => finv (Eff.av_lt e 0) (by rw [← hpost, ← h]; exact ⟨rfl, rfl⟩) H
  have finN : ∀ (e : Eff) H, e = exec x s r → e.data = [] → Up 0 post (.ret (.agg (e.cellsD dnil))) H := fun e H h hd => .le (.ret (.agg (leL_dnil e))) (LeH.refl _) (by have := fin e H h; unfold Eff.av Eff.cells at this; rwa [hd] at this)
  have ha : 0 ≤ x.a ∧ x.a < 8 := ⟨hx.a0, by have := hx.a7; omega⟩
  have hb : 0 ≤ x.b ∧ x.b < 8 := ⟨hx.b0, by have := hx.b7; omega⟩
  have ha19 : x.a.toNat + 1 ≤ 19 := by omega
  have hata := r.at hx.a0 hx.a7
  have hatb := r.at hx.b0 hx.b7
  have hfa := ffault0 hf
  obtain ⟨op, xa, xb, imm⟩ := x
  simp only at ho ha hb ha19 hata hatb
  subst ho
  simp only [go_sem,Nat.reduceAdd,Nat.reduceSub,Nat.reduceEqDiff,Nat.reduceLT,Nat.reduceLeDiff,↓reduceIte,Int.reduceToNat,reduceCtorEq,Int.reduceLT,Int.reduceEq,Ins.av,Ins.cells,Sp.av,Rg.av,Rg.cells]
  refine draw [.qu 0 0, .qu 0 0, .qu 0 0, .qu 0 0, .qu 0 0, .qu 0 0] (by kernel_rfl) (by kernel_rfl) ?_
  simp only [go_sem,Nat.reduceAdd,Nat.reduceSub,Nat.reduceEqDiff,Nat.reduceLT,Nat.reduceLeDiff,↓reduceIte,Int.reduceToNat,reduceCtorEq,Int.reduceLT,Int.reduceEq]
  refine y_call (enters_of Tryz.func85 rfl (by decide)) (fun _ => ACalls.pure_use (rilen_c _ hx) rfl rfl) ?_
  simp only [go_sem,Nat.reduceAdd,Nat.reduceSub,Nat.reduceEqDiff,Nat.reduceLT,Nat.reduceLeDiff,↓reduceIte,Int.reduceToNat,reduceCtorEq,Int.reduceLT,Int.reduceEq]
  refine rK_use (enters_of Tryz.func86 rfl (by decide)) (ACalls.pure_use (rfootprint_c _ hx r hr) rfl rfl) ?_
  simp only [go_sem,Nat.reduceAdd,Nat.reduceSub,Nat.reduceEqDiff,Nat.reduceLT,Nat.reduceLeDiff,↓reduceIte,Int.reduceToNat,reduceCtorEq,Int.reduceLT,Int.reduceEq]
  refine rK_use (enters_of Tryz.func87 rfl (by decide)) (ACalls.pure_use (rFault_c s hs (foot ⟨26, xa, xb, imm⟩ r) (foot_len _ r) (foot_size _ r)) rfl rfl) ?_
  simp only [go_sem,Nat.reduceAdd,Nat.reduceSub,Nat.reduceEqDiff,Nat.reduceLT,Nat.reduceLeDiff,↓reduceIte,Int.reduceToNat,reduceCtorEq,Int.reduceLT,Int.reduceEq,Flt.cells,hf]
  refine rK_use (enters_of Tryz.func88 rfl (by decide)) (ACalls.pure_use (isAlu_c 26) rfl rfl) ?_
  have ht : Ins.hasT ⟨26, xa, xb, imm⟩ = false := by simp [Ins.hasT, isBr]
  have hfo : foot ⟨26, xa, xb, imm⟩ r = [] := by simp [foot]
  rw [show isAlu 26 = false from rfl]
  simp only [go_sem,Nat.reduceAdd,Nat.reduceSub,Nat.reduceEqDiff,Nat.reduceLT,Nat.reduceLeDiff,↓reduceIte,Int.reduceToNat,reduceCtorEq,Int.reduceLT,Int.reduceEq,Ins.av,Ins.cells,Sp.av,Rg.av,Rg.cells,Eff.cellsD,ha,ha19,hb,hata,hatb,wr0 ha.1 ha.2,trE,Eff.av,Eff.cells]
  refine rK_use (enters_of Tryz.func90 rfl (by decide)) (ACalls.pure_use (rtarget_c _ hx _) rfl rfl) ?_
  rw [ht]
  simp only [go_sem,Nat.reduceAdd,Nat.reduceSub,Nat.reduceEqDiff,Nat.reduceLT,Nat.reduceLeDiff,↓reduceIte,Int.reduceToNat,reduceCtorEq,Int.reduceLT,Int.reduceEq,Ins.av,Ins.cells,Sp.av,Rg.av,Rg.cells,Eff.cellsD,ha,ha19,hb,hata,hatb,wr0 ha.1 ha.2,trE,Eff.av,Eff.cells,hfo,Acc.row,List.length_map,o0,m1,m2,m7,mp,Rg.set]
  exact finN (mp (o0 ⟨26, xa, xb, imm⟩ r) (r.get xa)) _ (by unfold exec; rw [reff_ok hf]; simp [isAlu, tabR, Res.eff, Pr.setA, Pr.toPc, Pr.p1, Pr.start, Pr.set7, o0, m1, m2, m7, mp, trE]) rfl
theorem rx33_c (x : Ins) (hx : x.ok) (ho : x.op = 33) (s : Sp) (hs : s.ok) (r : Rg) (hr : r.wf) (hf : (ffault s (foot x r)).kind = 0) :
    ACalls Tryz.prog 47 [x.av, s.av, r.av] [] (fun u H => u = .ret (exec x s r).av ∧ H = []) := by
  refine ACalls.up ?_
  refine ACalls.intro (cs := []) (n := 175) Tryz.func47 rfl rfl rfl (by kernel_rfl) rfl ?_
  generalize hpost : (fun (u : Out) (H : Heap) => u = Out.ret (exec x s r).av ∧ H = []) = post
  have fin : ∀ (e : Eff) H, e = exec x s r → Up 0 post (.ret e.av) H := fun e H h => finv (Eff.av_lt e 0) (by rw [← hpost, ← h]; exact ⟨rfl, rfl⟩) H
  have finN : ∀ (e : Eff) H, e = exec x s r → e.data = [] → Up 0 post (.ret (.agg (e.cellsD dnil))) H := fun e H h hd => .le (.ret (.agg (leL_dnil e))) (LeH.refl _) (by have := fin e H h; unfold Eff.av Eff.cells at this; rwa [hd] at this)
  have ha : 0 ≤ x.a ∧ x.a < 8 := ⟨hx.a0, by have := hx.a7; omega⟩
  have hb : 0 ≤ x.b ∧ x.b < 8 := ⟨hx.b0, by have := hx.b7; omega⟩
  have ha19 : x.a.toNat + 1 ≤ 19 := by omega
  have hata := r.at hx.a0 hx.a7
  have hatb := r.at hx.b0 hx.b7
  have hfa := ffault0 hf
  obtain ⟨op, xa, xb, imm⟩ := x
  simp only at ho ha hb ha19 hata hatb
  subst ho
  simp only [go_sem,Nat.reduceAdd,Nat.reduceSub,Nat.reduceEqDiff,Nat.reduceLT,Nat.reduceLeDiff,↓reduceIte,Int.reduceToNat,reduceCtorEq,Int.reduceLT,Int.reduceEq,Ins.av,Ins.cells,Sp.av,Rg.av,Rg.cells]
  refine draw [.qu 0 0, .qu 0 0, .qu 0 0, .qu 0 0, .qu 0 0, .qu 0 0] (by kernel_rfl) (by kernel_rfl) ?_
  simp only [go_sem,Nat.reduceAdd,Nat.reduceSub,Nat.reduceEqDiff,Nat.reduceLT,Nat.reduceLeDiff,↓reduceIte,Int.reduceToNat,reduceCtorEq,Int.reduceLT,Int.reduceEq]
  refine y_call (enters_of Tryz.func85 rfl (by decide)) (fun _ => ACalls.pure_use (rilen_c _ hx) rfl rfl) ?_
  simp only [go_sem,Nat.reduceAdd,Nat.reduceSub,Nat.reduceEqDiff,Nat.reduceLT,Nat.reduceLeDiff,↓reduceIte,Int.reduceToNat,reduceCtorEq,Int.reduceLT,Int.reduceEq]
  refine rK_use (enters_of Tryz.func86 rfl (by decide)) (ACalls.pure_use (rfootprint_c _ hx r hr) rfl rfl) ?_
  simp only [go_sem,Nat.reduceAdd,Nat.reduceSub,Nat.reduceEqDiff,Nat.reduceLT,Nat.reduceLeDiff,↓reduceIte,Int.reduceToNat,reduceCtorEq,Int.reduceLT,Int.reduceEq]
  refine rK_use (enters_of Tryz.func87 rfl (by decide)) (ACalls.pure_use (rFault_c s hs (foot ⟨33, xa, xb, imm⟩ r) (foot_len _ r) (foot_size _ r)) rfl rfl) ?_
  simp only [go_sem,Nat.reduceAdd,Nat.reduceSub,Nat.reduceEqDiff,Nat.reduceLT,Nat.reduceLeDiff,↓reduceIte,Int.reduceToNat,reduceCtorEq,Int.reduceLT,Int.reduceEq,Flt.cells,hf]
  refine rK_use (enters_of Tryz.func88 rfl (by decide)) (ACalls.pure_use (isAlu_c 33) rfl rfl) ?_
  have ht : Ins.hasT ⟨33, xa, xb, imm⟩ = false := by simp [Ins.hasT, isBr]
  have hfo : foot ⟨33, xa, xb, imm⟩ r = [] := by simp [foot]
  rw [show isAlu 33 = false from rfl]
  simp only [go_sem,Nat.reduceAdd,Nat.reduceSub,Nat.reduceEqDiff,Nat.reduceLT,Nat.reduceLeDiff,↓reduceIte,Int.reduceToNat,reduceCtorEq,Int.reduceLT,Int.reduceEq,Ins.av,Ins.cells,Sp.av,Rg.av,Rg.cells,Eff.cellsD,ha,ha19,hb,hata,hatb,wr0 ha.1 ha.2,trE,Eff.av,Eff.cells]
  refine rK_use (enters_of Tryz.func90 rfl (by decide)) (ACalls.pure_use (rtarget_c _ hx _) rfl rfl) ?_
  rw [ht]
  simp only [go_sem,Nat.reduceAdd,Nat.reduceSub,Nat.reduceEqDiff,Nat.reduceLT,Nat.reduceLeDiff,↓reduceIte,Int.reduceToNat,reduceCtorEq,Int.reduceLT,Int.reduceEq,Ins.av,Ins.cells,Sp.av,Rg.av,Rg.cells,Eff.cellsD,ha,ha19,hb,hata,hatb,wr0 ha.1 ha.2,trE,Eff.av,Eff.cells,hfo,Acc.row,List.length_map,o0,m1,m2,m7,mp,Rg.set]
  exact finN ({ o0 ⟨33, xa, xb, imm⟩ r with trap := ⟨1, imm, ⟨0, 0⟩⟩ }) _ (by unfold exec; rw [reff_ok hf]; simp [isAlu, tabR, Res.eff, Pr.setA, Pr.toPc, Pr.p1, Pr.start, Pr.set7, o0, m1, m2, m7, mp, trE]) rfl
theorem rx76_c (x : Ins) (hx : x.ok) (ho : x.op = 76) (s : Sp) (hs : s.ok) (r : Rg) (hr : r.wf) (hf : (ffault s (foot x r)).kind = 0) :
    ACalls Tryz.prog 47 [x.av, s.av, r.av] [] (fun u H => u = .ret (exec x s r).av ∧ H = []) := by
  refine ACalls.up ?_
  refine ACalls.intro (cs := []) (n := 175) Tryz.func47 rfl rfl rfl (by kernel_rfl) rfl ?_
  generalize hpost : (fun (u : Out) (H : Heap) => u = Out.ret (exec x s r).av ∧ H = []) = post
  have fin : ∀ (e : Eff) H, e = exec x s r → Up 0 post (.ret e.av) H := fun e H h => finv (Eff.av_lt e 0) (by rw [← hpost, ← h]; exact ⟨rfl, rfl⟩) H
  have finN : ∀ (e : Eff) H, e = exec x s r → e.data = [] → Up 0 post (.ret (.agg (e.cellsD dnil))) H := fun e H h hd => .le (.ret (.agg (leL_dnil e))) (LeH.refl _) (by have := fin e H h; unfold Eff.av Eff.cells at this; rwa [hd] at this)
  have ha : 0 ≤ x.a ∧ x.a < 8 := ⟨hx.a0, by have := hx.a7; omega⟩
  have hb : 0 ≤ x.b ∧ x.b < 8 := ⟨hx.b0, by have := hx.b7; omega⟩
  have ha19 : x.a.toNat + 1 ≤ 19 := by omega
  have hata := r.at hx.a0 hx.a7
  have hatb := r.at hx.b0 hx.b7
  have hfa := ffault0 hf
  obtain ⟨op, xa, xb, imm⟩ := x
  simp only at ho ha hb ha19 hata hatb
  subst ho
  simp only [go_sem,Nat.reduceAdd,Nat.reduceSub,Nat.reduceEqDiff,Nat.reduceLT,Nat.reduceLeDiff,↓reduceIte,Int.reduceToNat,reduceCtorEq,Int.reduceLT,Int.reduceEq,Ins.av,Ins.cells,Sp.av,Rg.av,Rg.cells]
  refine draw [.qu 0 0, .qu 0 0, .qu 0 0, .qu 0 0, .qu 0 0, .qu 0 0] (by kernel_rfl) (by kernel_rfl) ?_
  simp only [go_sem,Nat.reduceAdd,Nat.reduceSub,Nat.reduceEqDiff,Nat.reduceLT,Nat.reduceLeDiff,↓reduceIte,Int.reduceToNat,reduceCtorEq,Int.reduceLT,Int.reduceEq]
  refine y_call (enters_of Tryz.func85 rfl (by decide)) (fun _ => ACalls.pure_use (rilen_c _ hx) rfl rfl) ?_
  simp only [go_sem,Nat.reduceAdd,Nat.reduceSub,Nat.reduceEqDiff,Nat.reduceLT,Nat.reduceLeDiff,↓reduceIte,Int.reduceToNat,reduceCtorEq,Int.reduceLT,Int.reduceEq]
  refine rK_use (enters_of Tryz.func86 rfl (by decide)) (ACalls.pure_use (rfootprint_c _ hx r hr) rfl rfl) ?_
  simp only [go_sem,Nat.reduceAdd,Nat.reduceSub,Nat.reduceEqDiff,Nat.reduceLT,Nat.reduceLeDiff,↓reduceIte,Int.reduceToNat,reduceCtorEq,Int.reduceLT,Int.reduceEq]
  refine rK_use (enters_of Tryz.func87 rfl (by decide)) (ACalls.pure_use (rFault_c s hs (foot ⟨76, xa, xb, imm⟩ r) (foot_len _ r) (foot_size _ r)) rfl rfl) ?_
  simp only [go_sem,Nat.reduceAdd,Nat.reduceSub,Nat.reduceEqDiff,Nat.reduceLT,Nat.reduceLeDiff,↓reduceIte,Int.reduceToNat,reduceCtorEq,Int.reduceLT,Int.reduceEq,Flt.cells,hf]
  refine rK_use (enters_of Tryz.func88 rfl (by decide)) (ACalls.pure_use (isAlu_c 76) rfl rfl) ?_
  have ht : Ins.hasT ⟨76, xa, xb, imm⟩ = false := by simp [Ins.hasT, isBr]
  have hfo : foot ⟨76, xa, xb, imm⟩ r = [] := by simp [foot]
  rw [show isAlu 76 = false from rfl]
  simp only [go_sem,Nat.reduceAdd,Nat.reduceSub,Nat.reduceEqDiff,Nat.reduceLT,Nat.reduceLeDiff,↓reduceIte,Int.reduceToNat,reduceCtorEq,Int.reduceLT,Int.reduceEq,Ins.av,Ins.cells,Sp.av,Rg.av,Rg.cells,Eff.cellsD,ha,ha19,hb,hata,hatb,wr0 ha.1 ha.2,trE,Eff.av,Eff.cells]
  refine rK_use (enters_of Tryz.func90 rfl (by decide)) (ACalls.pure_use (rtarget_c _ hx _) rfl rfl) ?_
  rw [ht]
  simp only [go_sem,Nat.reduceAdd,Nat.reduceSub,Nat.reduceEqDiff,Nat.reduceLT,Nat.reduceLeDiff,↓reduceIte,Int.reduceToNat,reduceCtorEq,Int.reduceLT,Int.reduceEq,Ins.av,Ins.cells,Sp.av,Rg.av,Rg.cells,Eff.cellsD,ha,ha19,hb,hata,hatb,wr0 ha.1 ha.2,trE,Eff.av,Eff.cells]
  refine rK_use (enters_of Tryz.func84 rfl (by decide)) (ACalls.pure_use (trapped_c ⟨76, xa, xb, imm⟩ r ⟨2, 0, ⟨0, 0⟩⟩) rfl (by simp [AV.lt, ltL, Eff.av_lt])) ?_
  simp only [go_sem,Nat.reduceAdd,Nat.reduceSub,Nat.reduceEqDiff,Nat.reduceLT,Nat.reduceLeDiff,↓reduceIte,Int.reduceToNat,reduceCtorEq,Int.reduceLT,Int.reduceEq,Ins.av,Ins.cells,Sp.av,Rg.av,Rg.cells,Eff.cellsD,ha,ha19,hb,hata,hatb,wr0 ha.1 ha.2,trE,Eff.av,Eff.cells]
  exact fin (trE ⟨76, xa, xb, imm⟩ r ⟨2, 0, ⟨0, 0⟩⟩) _ (by unfold exec; rw [reff_ok hf]; simp [isAlu, tabR, Res.eff, Pr.setA, Pr.toPc, Pr.p1, Pr.start, Pr.set7, o0, m1, m2, m7, mp, trE])
theorem rx32_c (x : Ins) (hx : x.ok) (ho : x.op = 32) (s : Sp) (hs : s.ok) (r : Rg) (hr : r.wf) (hf : (ffault s (foot x r)).kind = 0) :
    ACalls Tryz.prog 47 [x.av, s.av, r.av] [] (fun u H => u = .ret (exec x s r).av ∧ H = []) := by
  refine ACalls.up ?_
  refine ACalls.intro (cs := []) (n := 175) Tryz.func47 rfl rfl rfl (by kernel_rfl) rfl ?_
  generalize hpost : (fun (u : Out) (H : Heap) => u = Out.ret (exec x s r).av ∧ H = []) = post
  have fin : ∀ (e : Eff) H, e = exec x s r → Up 0 post (.ret e.av) H := fun e H h => finv (Eff.av_lt e 0) (by rw [← hpost, ← h]; exact ⟨rfl, rfl⟩) H
  have finN : ∀ (e : Eff) H, e = exec x s r → e.data = [] → Up 0 post (.ret (.agg (e.cellsD dnil))) H := fun e H h hd => .le (.ret (.agg (leL_dnil e))) (LeH.refl _) (by have := fin e H h; unfold Eff.av Eff.cells at this; rwa [hd] at this)
  have ha : 0 ≤ x.a ∧ x.a < 8 := ⟨hx.a0, by have := hx.a7; omega⟩
  have hb : 0 ≤ x.b ∧ x.b < 8 := ⟨hx.b0, by have := hx.b7; omega⟩
  have ha19 : x.a.toNat + 1 ≤ 19 := by omega
  have hata := r.at hx.a0 hx.a7
  have hatb := r.at hx.b0 hx.b7
  have hfa := ffault0 hf
  obtain ⟨op, xa, xb, imm⟩ := x
  simp only at ho ha hb ha19 hata hatb
  subst ho
  simp only [go_sem,Nat.reduceAdd,Nat.reduceSub,Nat.reduceEqDiff,Nat.reduceLT,Nat.reduceLeDiff,↓reduceIte,Int.reduceToNat,reduceCtorEq,Int.reduceLT,Int.reduceEq,Ins.av,Ins.cells,Sp.av,Rg.av,Rg.cells]
  refine draw [.qu 0 0, .qu 0 0, .qu 0 0, .qu 0 0, .qu 0 0, .qu 0 0] (by kernel_rfl) (by kernel_rfl) ?_
  simp only [go_sem,Nat.reduceAdd,Nat.reduceSub,Nat.reduceEqDiff,Nat.reduceLT,Nat.reduceLeDiff,↓reduceIte,Int.reduceToNat,reduceCtorEq,Int.reduceLT,Int.reduceEq]
  refine y_call (enters_of Tryz.func85 rfl (by decide)) (fun _ => ACalls.pure_use (rilen_c _ hx) rfl rfl) ?_
  simp only [go_sem,Nat.reduceAdd,Nat.reduceSub,Nat.reduceEqDiff,Nat.reduceLT,Nat.reduceLeDiff,↓reduceIte,Int.reduceToNat,reduceCtorEq,Int.reduceLT,Int.reduceEq]
  refine rK_use (enters_of Tryz.func86 rfl (by decide)) (ACalls.pure_use (rfootprint_c _ hx r hr) rfl rfl) ?_
  simp only [go_sem,Nat.reduceAdd,Nat.reduceSub,Nat.reduceEqDiff,Nat.reduceLT,Nat.reduceLeDiff,↓reduceIte,Int.reduceToNat,reduceCtorEq,Int.reduceLT,Int.reduceEq]
  refine rK_use (enters_of Tryz.func87 rfl (by decide)) (ACalls.pure_use (rFault_c s hs (foot ⟨32, xa, xb, imm⟩ r) (foot_len _ r) (foot_size _ r)) rfl rfl) ?_
  simp only [go_sem,Nat.reduceAdd,Nat.reduceSub,Nat.reduceEqDiff,Nat.reduceLT,Nat.reduceLeDiff,↓reduceIte,Int.reduceToNat,reduceCtorEq,Int.reduceLT,Int.reduceEq,Flt.cells,hf]
  refine rK_use (enters_of Tryz.func88 rfl (by decide)) (ACalls.pure_use (isAlu_c 32) rfl rfl) ?_
  have ht : Ins.hasT ⟨32, xa, xb, imm⟩ = true := by simp [Ins.hasT, isBr, hx]
  have hg : Ins.tgt ⟨32, xa, xb, imm⟩ (iw .i64 (r.pc + (Ins.len ⟨32, xa, xb, imm⟩ : Nat))) = iw .i64 ((iw .i64 (r.pc + (Ins.len ⟨32, xa, xb, imm⟩ : Nat))) + imm) := by rw [Ins.tgt, if_pos ⟨hx, rfl⟩]
  have hfo : foot ⟨32, xa, xb, imm⟩ r = [] := by simp [foot]
  rw [show isAlu 32 = false from rfl]
  simp only [go_sem,Nat.reduceAdd,Nat.reduceSub,Nat.reduceEqDiff,Nat.reduceLT,Nat.reduceLeDiff,↓reduceIte,Int.reduceToNat,reduceCtorEq,Int.reduceLT,Int.reduceEq,Ins.av,Ins.cells,Sp.av,Rg.av,Rg.cells,Eff.cellsD,ha,ha19,hb,hata,hatb,wr0 ha.1 ha.2,trE,Eff.av,Eff.cells]
  refine rK_use (enters_of Tryz.func90 rfl (by decide)) (ACalls.pure_use (rtarget_c _ hx _) rfl rfl) ?_
  rw [ht]
  rw [hg]
  simp only [go_sem,Nat.reduceAdd,Nat.reduceSub,Nat.reduceEqDiff,Nat.reduceLT,Nat.reduceLeDiff,↓reduceIte,Int.reduceToNat,reduceCtorEq,Int.reduceLT,Int.reduceEq,Ins.av,Ins.cells,Sp.av,Rg.av,Rg.cells,Eff.cellsD,ha,ha19,hb,hata,hatb,wr0 ha.1 ha.2,trE,Eff.av,Eff.cells]
  refine rK_use (enters_of Tryz.func91 rfl (by decide)) (ACalls.pure_use (holds_c _ hx r) rfl rfl) ?_
  rw [show taken ⟨32, xa, xb, imm⟩ r = false by simp [taken]]
  simp only [go_sem,Nat.reduceAdd,Nat.reduceSub,Nat.reduceEqDiff,Nat.reduceLT,Nat.reduceLeDiff,↓reduceIte,Int.reduceToNat,reduceCtorEq,Int.reduceLT,Int.reduceEq,Ins.av,Ins.cells,Sp.av,Rg.av,Rg.cells,Eff.cellsD,ha,ha19,hb,hata,hatb,wr0 ha.1 ha.2,trE,Eff.av,Eff.cells,hfo,Acc.row,List.length_map,o0,m1,m2,m7,mp,Rg.set]
  exact finN (m1 (o0 ⟨32, xa, xb, imm⟩ r) xa (iw .i64 ((iw .i64 (r.pc + (Ins.len ⟨32, xa, xb, imm⟩ : Nat))) + imm))) _ (by unfold exec; rw [reff_ok hf]; simp [isAlu, tabR, Res.eff, Pr.setA, Pr.toPc, Pr.p1, Pr.start, Pr.set7, o0, m1, m2, m7, mp, trE]) rfl
theorem rx21_c (x : Ins) (hx : x.ok) (ho : x.op = 21) (s : Sp) (hs : s.ok) (r : Rg) (hr : r.wf) (hf : (ffault s (foot x r)).kind = 0) :
    ACalls Tryz.prog 47 [x.av, s.av, r.av] [] (fun u H => u = .ret (exec x s r).av ∧ H = []) := by
  refine ACalls.up ?_
  refine ACalls.intro (cs := []) (n := 175) Tryz.func47 rfl rfl rfl (by kernel_rfl) rfl ?_
  generalize hpost : (fun (u : Out) (H : Heap) => u = Out.ret (exec x s r).av ∧ H = []) = post
  have fin : ∀ (e : Eff) H, e = exec x s r → Up 0 post (.ret e.av) H := fun e H h => finv (Eff.av_lt e 0) (by rw [← hpost, ← h]; exact ⟨rfl, rfl⟩) H
  have finN : ∀ (e : Eff) H, e = exec x s r → e.data = [] → Up 0 post (.ret (.agg (e.cellsD dnil))) H := fun e H h hd => .le (.ret (.agg (leL_dnil e))) (LeH.refl _) (by have := fin e H h; unfold Eff.av Eff.cells at this; rwa [hd] at this)
  have ha : 0 ≤ x.a ∧ x.a < 8 := ⟨hx.a0, by have := hx.a7; omega⟩
  have hb : 0 ≤ x.b ∧ x.b < 8 := ⟨hx.b0, by have := hx.b7; omega⟩
  have ha19 : x.a.toNat + 1 ≤ 19 := by omega
  have hata := r.at hx.a0 hx.a7
  have hatb := r.at hx.b0 hx.b7
  have hfa := ffault0 hf
  obtain ⟨op, xa, xb, imm⟩ := x
  simp only at ho ha hb ha19 hata hatb
  subst ho
  simp only [go_sem,Nat.reduceAdd,Nat.reduceSub,Nat.reduceEqDiff,Nat.reduceLT,Nat.reduceLeDiff,↓reduceIte,Int.reduceToNat,reduceCtorEq,Int.reduceLT,Int.reduceEq,Ins.av,Ins.cells,Sp.av,Rg.av,Rg.cells]
  refine draw [.qu 0 0, .qu 0 0, .qu 0 0, .qu 0 0, .qu 0 0, .qu 0 0] (by kernel_rfl) (by kernel_rfl) ?_
  simp only [go_sem,Nat.reduceAdd,Nat.reduceSub,Nat.reduceEqDiff,Nat.reduceLT,Nat.reduceLeDiff,↓reduceIte,Int.reduceToNat,reduceCtorEq,Int.reduceLT,Int.reduceEq]
  refine y_call (enters_of Tryz.func85 rfl (by decide)) (fun _ => ACalls.pure_use (rilen_c _ hx) rfl rfl) ?_
  simp only [go_sem,Nat.reduceAdd,Nat.reduceSub,Nat.reduceEqDiff,Nat.reduceLT,Nat.reduceLeDiff,↓reduceIte,Int.reduceToNat,reduceCtorEq,Int.reduceLT,Int.reduceEq]
  refine rK_use (enters_of Tryz.func86 rfl (by decide)) (ACalls.pure_use (rfootprint_c _ hx r hr) rfl rfl) ?_
  simp only [go_sem,Nat.reduceAdd,Nat.reduceSub,Nat.reduceEqDiff,Nat.reduceLT,Nat.reduceLeDiff,↓reduceIte,Int.reduceToNat,reduceCtorEq,Int.reduceLT,Int.reduceEq]
  refine rK_use (enters_of Tryz.func87 rfl (by decide)) (ACalls.pure_use (rFault_c s hs (foot ⟨21, xa, xb, imm⟩ r) (foot_len _ r) (foot_size _ r)) rfl rfl) ?_
  simp only [go_sem,Nat.reduceAdd,Nat.reduceSub,Nat.reduceEqDiff,Nat.reduceLT,Nat.reduceLeDiff,↓reduceIte,Int.reduceToNat,reduceCtorEq,Int.reduceLT,Int.reduceEq,Flt.cells,hf]
  refine rK_use (enters_of Tryz.func88 rfl (by decide)) (ACalls.pure_use (isAlu_c 21) rfl rfl) ?_
  have ht : Ins.hasT ⟨21, xa, xb, imm⟩ = true := by simp [Ins.hasT, isBr, hx]
  have hg : Ins.tgt ⟨21, xa, xb, imm⟩ (iw .i64 (r.pc + (Ins.len ⟨21, xa, xb, imm⟩ : Nat))) = iw .i64 ((iw .i64 (r.pc + (Ins.len ⟨21, xa, xb, imm⟩ : Nat))) + imm) := by rw [Ins.tgt, if_pos ⟨hx, rfl⟩]
  have hfo : foot ⟨21, xa, xb, imm⟩ r = [] := by simp [foot]
  rw [show isAlu 21 = false from rfl]
  simp only [go_sem,Nat.reduceAdd,Nat.reduceSub,Nat.reduceEqDiff,Nat.reduceLT,Nat.reduceLeDiff,↓reduceIte,Int.reduceToNat,reduceCtorEq,Int.reduceLT,Int.reduceEq,Ins.av,Ins.cells,Sp.av,Rg.av,Rg.cells,Eff.cellsD,ha,ha19,hb,hata,hatb,wr0 ha.1 ha.2,trE,Eff.av,Eff.cells]
  refine rK_use (enters_of Tryz.func90 rfl (by decide)) (ACalls.pure_use (rtarget_c _ hx _) rfl rfl) ?_
  rw [ht]
  rw [hg]
  simp only [go_sem,Nat.reduceAdd,Nat.reduceSub,Nat.reduceEqDiff,Nat.reduceLT,Nat.reduceLeDiff,↓reduceIte,Int.reduceToNat,reduceCtorEq,Int.reduceLT,Int.reduceEq,Ins.av,Ins.cells,Sp.av,Rg.av,Rg.cells,Eff.cellsD,ha,ha19,hb,hata,hatb,wr0 ha.1 ha.2,trE,Eff.av,Eff.cells]
  refine rK_use (enters_of Tryz.func91 rfl (by decide)) (ACalls.pure_use (holds_c _ hx r) rfl rfl) ?_
  cases htk : taken ⟨21, xa, xb, imm⟩ r with
  | true =>
    simp only [go_sem,Nat.reduceAdd,Nat.reduceSub,Nat.reduceEqDiff,Nat.reduceLT,Nat.reduceLeDiff,↓reduceIte,Int.reduceToNat,reduceCtorEq,Int.reduceLT,Int.reduceEq,Ins.av,Ins.cells,Sp.av,Rg.av,Rg.cells,Eff.cellsD,ha,ha19,hb,hata,hatb,wr0 ha.1 ha.2,trE,Eff.av,Eff.cells,hfo,Acc.row,List.length_map,o0,m1,m2,m7,mp,Rg.set]
    exact finN (mp (o0 ⟨21, xa, xb, imm⟩ r) (iw .i64 ((iw .i64 (r.pc + (Ins.len ⟨21, xa, xb, imm⟩ : Nat))) + imm))) _ (by unfold exec; rw [reff_ok hf]; simp [isAlu, tabR, Res.eff, Pr.setA, Pr.toPc, Pr.p1, Pr.start, Pr.set7, o0, m1, m2, m7, mp, trE, htk]) rfl
  | false =>
    simp only [go_sem,Nat.reduceAdd,Nat.reduceSub,Nat.reduceEqDiff,Nat.reduceLT,Nat.reduceLeDiff,↓reduceIte,Int.reduceToNat,reduceCtorEq,Int.reduceLT,Int.reduceEq,Ins.av,Ins.cells,Sp.av,Rg.av,Rg.cells,Eff.cellsD,ha,ha19,hb,hata,hatb,wr0 ha.1 ha.2,trE,Eff.av,Eff.cells,hfo,Acc.row,List.length_map,o0,m1,m2,m7,mp,Rg.set]
    exact finN (o0 ⟨21, xa, xb, imm⟩ r) _ (by unfold exec; rw [reff_ok hf]; simp [isAlu, tabR, Res.eff, Pr.setA, Pr.toPc, Pr.p1, Pr.start, Pr.set7, o0, m1, m2, m7, mp, trE, htk]) rfl
theorem rx22_c (x : Ins) (hx : x.ok) (ho : x.op = 22) (s : Sp) (hs : s.ok) (r : Rg) (hr : r.wf) (hf : (ffault s (foot x r)).kind = 0) :
    ACalls Tryz.prog 47 [x.av, s.av, r.av] [] (fun u H => u = .ret (exec x s r).av ∧ H = []) := by
  refine ACalls.up ?_
  refine ACalls.intro (cs := []) (n := 175) Tryz.func47 rfl rfl rfl (by kernel_rfl) rfl ?_
  generalize hpost : (fun (u : Out) (H : Heap) => u = Out.ret (exec x s r).av ∧ H = []) = post
  have fin : ∀ (e : Eff) H, e = exec x s r → Up 0 post (.ret e.av) H := fun e H h => finv (Eff.av_lt e 0) (by rw [← hpost, ← h]; exact ⟨rfl, rfl⟩) H
  have finN : ∀ (e : Eff) H, e = exec x s r → e.data = [] → Up 0 post (.ret (.agg (e.cellsD dnil))) H := fun e H h hd => .le (.ret (.agg (leL_dnil e))) (LeH.refl _) (by have := fin e H h; unfold Eff.av Eff.cells at this; rwa [hd] at this)
  have ha : 0 ≤ x.a ∧ x.a < 8 := ⟨hx.a0, by have := hx.a7; omega⟩
  have hb : 0 ≤ x.b ∧ x.b < 8 := ⟨hx.b0, by have := hx.b7; omega⟩
  have ha19 : x.a.toNat + 1 ≤ 19 := by omega
  have hata := r.at hx.a0 hx.a7
  have hatb := r.at hx.b0 hx.b7
  have hfa := ffault0 hf
  obtain ⟨op, xa, xb, imm⟩ := x
  simp only at ho ha hb ha19 hata hatb
  subst ho
  simp only [go_sem,Nat.reduceAdd,Nat.reduceSub,Nat.reduceEqDiff,Nat.reduceLT,Nat.reduceLeDiff,↓reduceIte,Int.reduceToNat,reduceCtorEq,Int.reduceLT,Int.reduceEq,Ins.av,Ins.cells,Sp.av,Rg.av,Rg.cells]
  refine draw [.qu 0 0, .qu 0 0, .qu 0 0, .qu 0 0, .qu 0 0, .qu 0 0] (by kernel_rfl) (by kernel_rfl) ?_
  simp only [go_sem,Nat.reduceAdd,Nat.reduceSub,Nat.reduceEqDiff,Nat.reduceLT,Nat.reduceLeDiff,↓reduceIte,Int.reduceToNat,reduceCtorEq,Int.reduceLT,Int.reduceEq]
  refine y_call (enters_of Tryz.func85 rfl (by decide)) (fun _ => ACalls.pure_use (rilen_c _ hx) rfl rfl) ?_
  simp only [go_sem,Nat.reduceAdd,Nat.reduceSub,Nat.reduceEqDiff,Nat.reduceLT,Nat.reduceLeDiff,↓reduceIte,Int.reduceToNat,reduceCtorEq,Int.reduceLT,Int.reduceEq]
  refine rK_use (enters_of Tryz.func86 rfl (by decide)) (ACalls.pure_use (rfootprint_c _ hx r hr) rfl rfl) ?_
  simp only [go_sem,Nat.reduceAdd,Nat.reduceSub,Nat.reduceEqDiff,Nat.reduceLT,Nat.reduceLeDiff,↓reduceIte,Int.reduceToNat,reduceCtorEq,Int.reduceLT,Int.reduceEq]
  refine rK_use (enters_of Tryz.func87 rfl (by decide)) (ACalls.pure_use (rFault_c s hs (foot ⟨22, xa, xb, imm⟩ r) (foot_len _ r) (foot_size _ r)) rfl rfl) ?_
  simp only [go_sem,Nat.reduceAdd,Nat.reduceSub,Nat.reduceEqDiff,Nat.reduceLT,Nat.reduceLeDiff,↓reduceIte,Int.reduceToNat,reduceCtorEq,Int.reduceLT,Int.reduceEq,Flt.cells,hf]
  refine rK_use (enters_of Tryz.func88 rfl (by decide)) (ACalls.pure_use (isAlu_c 22) rfl rfl) ?_
  have ht : Ins.hasT ⟨22, xa, xb, imm⟩ = true := by simp [Ins.hasT, isBr, hx]
  have hg : Ins.tgt ⟨22, xa, xb, imm⟩ (iw .i64 (r.pc + (Ins.len ⟨22, xa, xb, imm⟩ : Nat))) = iw .i64 ((iw .i64 (r.pc + (Ins.len ⟨22, xa, xb, imm⟩ : Nat))) + imm) := by rw [Ins.tgt, if_pos ⟨hx, rfl⟩]
  have hfo : foot ⟨22, xa, xb, imm⟩ r = [] := by simp [foot]
  rw [show isAlu 22 = false from rfl]
  simp only [go_sem,Nat.reduceAdd,Nat.reduceSub,Nat.reduceEqDiff,Nat.reduceLT,Nat.reduceLeDiff,↓reduceIte,Int.reduceToNat,reduceCtorEq,Int.reduceLT,Int.reduceEq,Ins.av,Ins.cells,Sp.av,Rg.av,Rg.cells,Eff.cellsD,ha,ha19,hb,hata,hatb,wr0 ha.1 ha.2,trE,Eff.av,Eff.cells]
  refine rK_use (enters_of Tryz.func90 rfl (by decide)) (ACalls.pure_use (rtarget_c _ hx _) rfl rfl) ?_
  rw [ht]
  rw [hg]
  simp only [go_sem,Nat.reduceAdd,Nat.reduceSub,Nat.reduceEqDiff,Nat.reduceLT,Nat.reduceLeDiff,↓reduceIte,Int.reduceToNat,reduceCtorEq,Int.reduceLT,Int.reduceEq,Ins.av,Ins.cells,Sp.av,Rg.av,Rg.cells,Eff.cellsD,ha,ha19,hb,hata,hatb,wr0 ha.1 ha.2,trE,Eff.av,Eff.cells]
  refine rK_use (enters_of Tryz.func91 rfl (by decide)) (ACalls.pure_use (holds_c _ hx r) rfl rfl) ?_
  cases htk : taken ⟨22, xa, xb, imm⟩ r with
  | true =>
    simp only [go_sem,Nat.reduceAdd,Nat.reduceSub,Nat.reduceEqDiff,Nat.reduceLT,Nat.reduceLeDiff,↓reduceIte,Int.reduceToNat,reduceCtorEq,Int.reduceLT,Int.reduceEq,Ins.av,Ins.cells,Sp.av,Rg.av,Rg.cells,Eff.cellsD,ha,ha19,hb,hata,hatb,wr0 ha.1 ha.2,trE,Eff.av,Eff.cells,hfo,Acc.row,List.length_map,o0,m1,m2,m7,mp,Rg.set]
    exact finN (mp (o0 ⟨22, xa, xb, imm⟩ r) (iw .i64 ((iw .i64 (r.pc + (Ins.len ⟨22, xa, xb, imm⟩ : Nat))) + imm))) _ (by unfold exec; rw [reff_ok hf]; simp [isAlu, tabR, Res.eff, Pr.setA, Pr.toPc, Pr.p1, Pr.start, Pr.set7, o0, m1, m2, m7, mp, trE, htk]) rfl
  | false =>
    simp only [go_sem,Nat.reduceAdd,Nat.reduceSub,Nat.reduceEqDiff,Nat.reduceLT,Nat.reduceLeDiff,↓reduceIte,Int.reduceToNat,reduceCtorEq,Int.reduceLT,Int.reduceEq,Ins.av,Ins.cells,Sp.av,Rg.av,Rg.cells,Eff.cellsD,ha,ha19,hb,hata,hatb,wr0 ha.1 ha.2,trE,Eff.av,Eff.cells,hfo,Acc.row,List.length_map,o0,m1,m2,m7,mp,Rg.set]
    exact finN (o0 ⟨22, xa, xb, imm⟩ r) _ (by unfold exec; rw [reff_ok hf]; simp [isAlu, tabR, Res.eff, Pr.setA, Pr.toPc, Pr.p1, Pr.start, Pr.set7, o0, m1, m2, m7, mp, trE, htk]) rfl
theorem rx23_c (x : Ins) (hx : x.ok) (ho : x.op = 23) (s : Sp) (hs : s.ok) (r : Rg) (hr : r.wf) (hf : (ffault s (foot x r)).kind = 0) :
    ACalls Tryz.prog 47 [x.av, s.av, r.av] [] (fun u H => u = .ret (exec x s r).av ∧ H = []) := by
  refine ACalls.up ?_
  refine ACalls.intro (cs := []) (n := 175) Tryz.func47 rfl rfl rfl (by kernel_rfl) rfl ?_
  generalize hpost : (fun (u : Out) (H : Heap) => u = Out.ret (exec x s r).av ∧ H = []) = post
  have fin : ∀ (e : Eff) H, e = exec x s r → Up 0 post (.ret e.av) H := fun e H h => finv (Eff.av_lt e 0) (by rw [← hpost, ← h]; exact ⟨rfl, rfl⟩) H
  have finN : ∀ (e : Eff) H, e = exec x s r → e.data = [] → Up 0 post (.ret (.agg (e.cellsD dnil))) H := fun e H h hd => .le (.ret (.agg (leL_dnil e))) (LeH.refl _) (by have := fin e H h; unfold Eff.av Eff.cells at this; rwa [hd] at this)
  have ha : 0 ≤ x.a ∧ x.a < 8 := ⟨hx.a0, by have := hx.a7; omega⟩
  have hb : 0 ≤ x.b ∧ x.b < 8 := ⟨hx.b0, by have := hx.b7; omega⟩
  have ha19 : x.a.toNat + 1 ≤ 19 := by omega
  have hata := r.at hx.a0 hx.a7
  have hatb := r.at hx.b0 hx.b7
  have hfa := ffault0 hf
  obtain ⟨op, xa, xb, imm⟩ := x
  simp only at ho ha hb ha19 hata hatb
  subst ho
  simp only [go_sem,Nat.reduceAdd,Nat.reduceSub,Nat.reduceEqDiff,Nat.reduceLT,Nat.reduceLeDiff,↓reduceIte,Int.reduceToNat,reduceCtorEq,Int.reduceLT,Int.reduceEq,Ins.av,Ins.cells,Sp.av,Rg.av,Rg.cells]
  refine draw [.qu 0 0, .qu 0 0, .qu 0 0, .qu 0 0, .qu 0 0, .qu 0 0] (by kernel_rfl) (by kernel_rfl) ?_
  simp only [go_sem,Nat.reduceAdd,Nat.reduceSub,Nat.reduceEqDiff,Nat.reduceLT,Nat.reduceLeDiff,↓reduceIte,Int.reduceToNat,reduceCtorEq,Int.reduceLT,Int.reduceEq]
  refine y_call (enters_of Tryz.func85 rfl (by decide)) (fun _ => ACalls.pure_use (rilen_c _ hx) rfl rfl) ?_
  simp only [go_sem,Nat.reduceAdd,Nat.reduceSub,Nat.reduceEqDiff,Nat.reduceLT,Nat.reduceLeDiff,↓reduceIte,Int.reduceToNat,reduceCtorEq,Int.reduceLT,Int.reduceEq]
  refine rK_use (enters_of Tryz.func86 rfl (by decide)) (ACalls.pure_use (rfootprint_c _ hx r hr) rfl rfl) ?_
  simp only [go_sem,Nat.reduceAdd,Nat.reduceSub,Nat.reduceEqDiff,Nat.reduceLT,Nat.reduceLeDiff,↓reduceIte,Int.reduceToNat,reduceCtorEq,Int.reduceLT,Int.reduceEq]
  refine rK_use (enters_of Tryz.func87 rfl (by decide)) (ACalls.pure_use (rFault_c s hs (foot ⟨23, xa, xb, imm⟩ r) (foot_len _ r) (foot_size _ r)) rfl rfl) ?_
  simp only [go_sem,Nat.reduceAdd,Nat.reduceSub,Nat.reduceEqDiff,Nat.reduceLT,Nat.reduceLeDiff,↓reduceIte,Int.reduceToNat,reduceCtorEq,Int.reduceLT,Int.reduceEq,Flt.cells,hf]
  refine rK_use (enters_of Tryz.func88 rfl (by decide)) (ACalls.pure_use (isAlu_c 23) rfl rfl) ?_
  have ht : Ins.hasT ⟨23, xa, xb, imm⟩ = true := by simp [Ins.hasT, isBr, hx]
  have hg : Ins.tgt ⟨23, xa, xb, imm⟩ (iw .i64 (r.pc + (Ins.len ⟨23, xa, xb, imm⟩ : Nat))) = iw .i64 ((iw .i64 (r.pc + (Ins.len ⟨23, xa, xb, imm⟩ : Nat))) + imm) := by rw [Ins.tgt, if_pos ⟨hx, rfl⟩]
  have hfo : foot ⟨23, xa, xb, imm⟩ r = [] := by simp [foot]
  rw [show isAlu 23 = false from rfl]
  simp only [go_sem,Nat.reduceAdd,Nat.reduceSub,Nat.reduceEqDiff,Nat.reduceLT,Nat.reduceLeDiff,↓reduceIte,Int.reduceToNat,reduceCtorEq,Int.reduceLT,Int.reduceEq,Ins.av,Ins.cells,Sp.av,Rg.av,Rg.cells,Eff.cellsD,ha,ha19,hb,hata,hatb,wr0 ha.1 ha.2,trE,Eff.av,Eff.cells]
  refine rK_use (enters_of Tryz.func90 rfl (by decide)) (ACalls.pure_use (rtarget_c _ hx _) rfl rfl) ?_
  rw [ht]
  rw [hg]
  simp only [go_sem,Nat.reduceAdd,Nat.reduceSub,Nat.reduceEqDiff,Nat.reduceLT,Nat.reduceLeDiff,↓reduceIte,Int.reduceToNat,reduceCtorEq,Int.reduceLT,Int.reduceEq,Ins.av,Ins.cells,Sp.av,Rg.av,Rg.cells,Eff.cellsD,ha,ha19,hb,hata,hatb,wr0 ha.1 ha.2,trE,Eff.av,Eff.cells]
  refine rK_use (enters_of Tryz.func91 rfl (by decide)) (ACalls.pure_use (holds_c _ hx r) rfl rfl) ?_
  cases htk : taken ⟨23, xa, xb, imm⟩ r with
  | true =>
    simp only [go_sem,Nat.reduceAdd,Nat.reduceSub,Nat.reduceEqDiff,Nat.reduceLT,Nat.reduceLeDiff,↓reduceIte,Int.reduceToNat,reduceCtorEq,Int.reduceLT,Int.reduceEq,Ins.av,Ins.cells,Sp.av,Rg.av,Rg.cells,Eff.cellsD,ha,ha19,hb,hata,hatb,wr0 ha.1 ha.2,trE,Eff.av,Eff.cells,hfo,Acc.row,List.length_map,o0,m1,m2,m7,mp,Rg.set]
    exact finN (mp (o0 ⟨23, xa, xb, imm⟩ r) (iw .i64 ((iw .i64 (r.pc + (Ins.len ⟨23, xa, xb, imm⟩ : Nat))) + imm))) _ (by unfold exec; rw [reff_ok hf]; simp [isAlu, tabR, Res.eff, Pr.setA, Pr.toPc, Pr.p1, Pr.start, Pr.set7, o0, m1, m2, m7, mp, trE, htk]) rfl
  | false =>
    simp only [go_sem,Nat.reduceAdd,Nat.reduceSub,Nat.reduceEqDiff,Nat.reduceLT,Nat.reduceLeDiff,↓reduceIte,Int.reduceToNat,reduceCtorEq,Int.reduceLT,Int.reduceEq,Ins.av,Ins.cells,Sp.av,Rg.av,Rg.cells,Eff.cellsD,ha,ha19,hb,hata,hatb,wr0 ha.1 ha.2,trE,Eff.av,Eff.cells,hfo,Acc.row,List.length_map,o0,m1,m2,m7,mp,Rg.set]
    exact finN (o0 ⟨23, xa, xb, imm⟩ r) _ (by unfold exec; rw [reff_ok hf]; simp [isAlu, tabR, Res.eff, Pr.setA, Pr.toPc, Pr.p1, Pr.start, Pr.set7, o0, m1, m2, m7, mp, trE, htk]) rfl
theorem rx24_c (x : Ins) (hx : x.ok) (ho : x.op = 24) (s : Sp) (hs : s.ok) (r : Rg) (hr : r.wf) (hf : (ffault s (foot x r)).kind = 0) :
    ACalls Tryz.prog 47 [x.av, s.av, r.av] [] (fun u H => u = .ret (exec x s r).av ∧ H = []) := by
  refine ACalls.up ?_
  refine ACalls.intro (cs := []) (n := 175) Tryz.func47 rfl rfl rfl (by kernel_rfl) rfl ?_
  generalize hpost : (fun (u : Out) (H : Heap) => u = Out.ret (exec x s r).av ∧ H = []) = post
  have fin : ∀ (e : Eff) H, e = exec x s r → Up 0 post (.ret e.av) H := fun e H h => finv (Eff.av_lt e 0) (by rw [← hpost, ← h]; exact ⟨rfl, rfl⟩) H
  have finN : ∀ (e : Eff) H, e = exec x s r → e.data = [] → Up 0 post (.ret (.agg (e.cellsD dnil))) H := fun e H h hd => .le (.ret (.agg (leL_dnil e))) (LeH.refl _) (by have := fin e H h; unfold Eff.av Eff.cells at this; rwa [hd] at this)
  have ha : 0 ≤ x.a ∧ x.a < 8 := ⟨hx.a0, by have := hx.a7; omega⟩
  have hb : 0 ≤ x.b ∧ x.b < 8 := ⟨hx.b0, by have := hx.b7; omega⟩
  have ha19 : x.a.toNat + 1 ≤ 19 := by omega
  have hata := r.at hx.a0 hx.a7
  have hatb := r.at hx.b0 hx.b7
  have hfa := ffault0 hf
  obtain ⟨op, xa, xb, imm⟩ := x
  simp only at ho ha hb ha19 hata hatb
  subst ho
  simp only [go_sem,Nat.reduceAdd,Nat.reduceSub,Nat.reduceEqDiff,Nat.reduceLT,Nat.reduceLeDiff,↓reduceIte,Int.reduceToNat,reduceCtorEq,Int.reduceLT,Int.reduceEq,Ins.av,Ins.cells,Sp.av,Rg.av,Rg.cells]
  refine draw [.qu 0 0, .qu 0 0, .qu 0 0, .qu 0 0, .qu 0 0, .qu 0 0] (by kernel_rfl) (by kernel_rfl) ?_
  simp only [go_sem,Nat.reduceAdd,Nat.reduceSub,Nat.reduceEqDiff,Nat.reduceLT,Nat.reduceLeDiff,↓reduceIte,Int.reduceToNat,reduceCtorEq,Int.reduceLT,Int.reduceEq]
  refine y_call (enters_of Tryz.func85 rfl (by decide)) (fun _ => ACalls.pure_use (rilen_c _ hx) rfl rfl) ?_
  simp only [go_sem,Nat.reduceAdd,Nat.reduceSub,Nat.reduceEqDiff,Nat.reduceLT,Nat.reduceLeDiff,↓reduceIte,Int.reduceToNat,reduceCtorEq,Int.reduceLT,Int.reduceEq]
  refine rK_use (enters_of Tryz.func86 rfl (by decide)) (ACalls.pure_use (rfootprint_c _ hx r hr) rfl rfl) ?_
  simp only [go_sem,Nat.reduceAdd,Nat.reduceSub,Nat.reduceEqDiff,Nat.reduceLT,Nat.reduceLeDiff,↓reduceIte,Int.reduceToNat,reduceCtorEq,Int.reduceLT,Int.reduceEq]
  refine rK_use (enters_of Tryz.func87 rfl (by decide)) (ACalls.pure_use (rFault_c s hs (foot ⟨24, xa, xb, imm⟩ r) (foot_len _ r) (foot_size _ r)) rfl rfl) ?_
  simp only [go_sem,Nat.reduceAdd,Nat.reduceSub,Nat.reduceEqDiff,Nat.reduceLT,Nat.reduceLeDiff,↓reduceIte,Int.reduceToNat,reduceCtorEq,Int.reduceLT,Int.reduceEq,Flt.cells,hf]
  refine rK_use (enters_of Tryz.func88 rfl (by decide)) (ACalls.pure_use (isAlu_c 24) rfl rfl) ?_
  have ht : Ins.hasT ⟨24, xa, xb, imm⟩ = true := by simp [Ins.hasT, isBr, hx]
  have hg : Ins.tgt ⟨24, xa, xb, imm⟩ (iw .i64 (r.pc + (Ins.len ⟨24, xa, xb, imm⟩ : Nat))) = iw .i64 ((iw .i64 (r.pc + (Ins.len ⟨24, xa, xb, imm⟩ : Nat))) + imm) := by rw [Ins.tgt, if_pos ⟨hx, rfl⟩]
  have hfo : foot ⟨24, xa, xb, imm⟩ r = [] := by simp [foot]
  rw [show isAlu 24 = false from rfl]
  simp only [go_sem,Nat.reduceAdd,Nat.reduceSub,Nat.reduceEqDiff,Nat.reduceLT,Nat.reduceLeDiff,↓reduceIte,Int.reduceToNat,reduceCtorEq,Int.reduceLT,Int.reduceEq,Ins.av,Ins.cells,Sp.av,Rg.av,Rg.cells,Eff.cellsD,ha,ha19,hb,hata,hatb,wr0 ha.1 ha.2,trE,Eff.av,Eff.cells]
  refine rK_use (enters_of Tryz.func90 rfl (by decide)) (ACalls.pure_use (rtarget_c _ hx _) rfl rfl) ?_
  rw [ht]
  rw [hg]
  simp only [go_sem,Nat.reduceAdd,Nat.reduceSub,Nat.reduceEqDiff,Nat.reduceLT,Nat.reduceLeDiff,↓reduceIte,Int.reduceToNat,reduceCtorEq,Int.reduceLT,Int.reduceEq,Ins.av,Ins.cells,Sp.av,Rg.av,Rg.cells,Eff.cellsD,ha,ha19,hb,hata,hatb,wr0 ha.1 ha.2,trE,Eff.av,Eff.cells]
  refine rK_use (enters_of Tryz.func91 rfl (by decide)) (ACalls.pure_use (holds_c _ hx r) rfl rfl) ?_
  cases htk : taken ⟨24, xa, xb, imm⟩ r with
  | true =>
    simp only [go_sem,Nat.reduceAdd,Nat.reduceSub,Nat.reduceEqDiff,Nat.reduceLT,Nat.reduceLeDiff,↓reduceIte,Int.reduceToNat,reduceCtorEq,Int.reduceLT,Int.reduceEq,Ins.av,Ins.cells,Sp.av,Rg.av,Rg.cells,Eff.cellsD,ha,ha19,hb,hata,hatb,wr0 ha.1 ha.2,trE,Eff.av,Eff.cells,hfo,Acc.row,List.length_map,o0,m1,m2,m7,mp,Rg.set]
    exact finN (mp (o0 ⟨24, xa, xb, imm⟩ r) (iw .i64 ((iw .i64 (r.pc + (Ins.len ⟨24, xa, xb, imm⟩ : Nat))) + imm))) _ (by unfold exec; rw [reff_ok hf]; simp [isAlu, tabR, Res.eff, Pr.setA, Pr.toPc, Pr.p1, Pr.start, Pr.set7, o0, m1, m2, m7, mp, trE, htk]) rfl
  | false =>
    simp only [go_sem,Nat.reduceAdd,Nat.reduceSub,Nat.reduceEqDiff,Nat.reduceLT,Nat.reduceLeDiff,↓reduceIte,Int.reduceToNat,reduceCtorEq,Int.reduceLT,Int.reduceEq,Ins.av,Ins.cells,Sp.av,Rg.av,Rg.cells,Eff.cellsD,ha,ha19,hb,hata,hatb,wr0 ha.1 ha.2,trE,Eff.av,Eff.cells,hfo,Acc.row,List.length_map,o0,m1,m2,m7,mp,Rg.set]
    exact finN (o0 ⟨24, xa, xb, imm⟩ r) _ (by unfold exec; rw [reff_ok hf]; simp [isAlu, tabR, Res.eff, Pr.setA, Pr.toPc, Pr.p1, Pr.start, Pr.set7, o0, m1, m2, m7, mp, trE, htk]) rfl
theorem rx25_c (x : Ins) (hx : x.ok) (ho : x.op = 25) (s : Sp) (hs : s.ok) (r : Rg) (hr : r.wf) (hf : (ffault s (foot x r)).kind = 0) :
    ACalls Tryz.prog 47 [x.av, s.av, r.av] [] (fun u H => u = .ret (exec x s r).av ∧ H = []) := by
  refine ACalls.up ?_
  refine ACalls.intro (cs := []) (n := 175) Tryz.func47 rfl rfl rfl (by kernel_rfl) rfl ?_
  generalize hpost : (fun (u : Out) (H : Heap) => u = Out.ret (exec x s r).av ∧ H = []) = post
  have fin : ∀ (e : Eff) H, e = exec x s r → Up 0 post (.ret e.av) H := fun e H h => finv (Eff.av_lt e 0) (by rw [← hpost, ← h]; exact ⟨rfl, rfl⟩) H
  have finN : ∀ (e : Eff) H, e = exec x s r → e.data = [] → Up 0 post (.ret (.agg (e.cellsD dnil))) H := fun e H h hd => .le (.ret (.agg (leL_dnil e))) (LeH.refl _) (by have := fin e H h; unfold Eff.av Eff.cells at this; rwa [hd] at this)
  have ha : 0 ≤ x.a ∧ x.a < 8 := ⟨hx.a0, by have := hx.a7; omega⟩
  have hb : 0 ≤ x.b ∧ x.b < 8 := ⟨hx.b0, by have := hx.b7; omega⟩
  have ha19 : x.a.toNat + 1 ≤ 19 := by omega
  have hata := r.at hx.a0 hx.a7
  have hatb := r.at hx.b0 hx.b7
  have hfa := ffault0 hf
  obtain ⟨op, xa, xb, imm⟩ := x
  simp only at ho ha hb ha19 hata hatb
  subst ho
  simp only [go_sem,Nat.reduceAdd,Nat.reduceSub,Nat.reduceEqDiff,Nat.reduceLT,Nat.reduceLeDiff,↓reduceIte,Int.reduceToNat,reduceCtorEq,Int.reduceLT,Int.reduceEq,Ins.av,Ins.cells,Sp.av,Rg.av,Rg.cells]
  refine draw [.qu 0 0, .qu 0 0, .qu 0 0, .qu 0 0, .qu 0 0, .qu 0 0] (by kernel_rfl) (by kernel_rfl) ?_
  simp only [go_sem,Nat.reduceAdd,Nat.reduceSub,Nat.reduceEqDiff,Nat.reduceLT,Nat.reduceLeDiff,↓reduceIte,Int.reduceToNat,reduceCtorEq,Int.reduceLT,Int.reduceEq]
  refine y_call (enters_of Tryz.func85 rfl (by decide)) (fun _ => ACalls.pure_use (rilen_c _ hx) rfl rfl) ?_
  simp only [go_sem,Nat.reduceAdd,Nat.reduceSub,Nat.reduceEqDiff,Nat.reduceLT,Nat.reduceLeDiff,↓reduceIte,Int.reduceToNat,reduceCtorEq,Int.reduceLT,Int.reduceEq]
  refine rK_use (enters_of Tryz.func86 rfl (by decide)) (ACalls.pure_use (rfootprint_c _ hx r hr) rfl rfl) ?_
  simp only [go_sem,Nat.reduceAdd,Nat.reduceSub,Nat.reduceEqDiff,Nat.reduceLT,Nat.reduceLeDiff,↓reduceIte,Int.reduceToNat,reduceCtorEq,Int.reduceLT,Int.reduceEq]
  refine rK_use (enters_of Tryz.func87 rfl (by decide)) (ACalls.pure_use (rFault_c s hs (foot ⟨25, xa, xb, imm⟩ r) (foot_len _ r) (foot_size _ r)) rfl rfl) ?_
  simp only [go_sem,Nat.reduceAdd,Nat.reduceSub,Nat.reduceEqDiff,Nat.reduceLT,Nat.reduceLeDiff,↓reduceIte,Int.reduceToNat,reduceCtorEq,Int.reduceLT,Int.reduceEq,Flt.cells,hf]
  refine rK_use (enters_of Tryz.func88 rfl (by decide)) (ACalls.pure_use (isAlu_c 25) rfl rfl) ?_
  have ht : Ins.hasT ⟨25, xa, xb, imm⟩ = true := by simp [Ins.hasT, isBr, hx]
  have hg : Ins.tgt ⟨25, xa, xb, imm⟩ (iw .i64 (r.pc + (Ins.len ⟨25, xa, xb, imm⟩ : Nat))) = iw .i64 ((iw .i64 (r.pc + (Ins.len ⟨25, xa, xb, imm⟩ : Nat))) + imm) := by rw [Ins.tgt, if_pos ⟨hx, rfl⟩]
  have hfo : foot ⟨25, xa, xb, imm⟩ r = [] := by simp [foot]
  rw [show isAlu 25 = false from rfl]
  simp only [go_sem,Nat.reduceAdd,Nat.reduceSub,Nat.reduceEqDiff,Nat.reduceLT,Nat.reduceLeDiff,↓reduceIte,Int.reduceToNat,reduceCtorEq,Int.reduceLT,Int.reduceEq,Ins.av,Ins.cells,Sp.av,Rg.av,Rg.cells,Eff.cellsD,ha,ha19,hb,hata,hatb,wr0 ha.1 ha.2,trE,Eff.av,Eff.cells]
  refine rK_use (enters_of Tryz.func90 rfl (by decide)) (ACalls.pure_use (rtarget_c _ hx _) rfl rfl) ?_
  rw [ht]
  rw [hg]
  simp only [go_sem,Nat.reduceAdd,Nat.reduceSub,Nat.reduceEqDiff,Nat.reduceLT,Nat.reduceLeDiff,↓reduceIte,Int.reduceToNat,reduceCtorEq,Int.reduceLT,Int.reduceEq,Ins.av,Ins.cells,Sp.av,Rg.av,Rg.cells,Eff.cellsD,ha,ha19,hb,hata,hatb,wr0 ha.1 ha.2,trE,Eff.av,Eff.cells]
  refine rK_use (enters_of Tryz.func91 rfl (by decide)) (ACalls.pure_use (holds_c _ hx r) rfl rfl) ?_
  cases htk : taken ⟨25, xa, xb, imm⟩ r with
  | true =>
    simp only [go_sem,Nat.reduceAdd,Nat.reduceSub,Nat.reduceEqDiff,Nat.reduceLT,Nat.reduceLeDiff,↓reduceIte,Int.reduceToNat,reduceCtorEq,Int.reduceLT,Int.reduceEq,Ins.av,Ins.cells,Sp.av,Rg.av,Rg.cells,Eff.cellsD,ha,ha19,hb,hata,hatb,wr0 ha.1 ha.2,trE,Eff.av,Eff.cells,hfo,Acc.row,List.length_map,o0,m1,m2,m7,mp,Rg.set]
    exact finN (mp (o0 ⟨25, xa, xb, imm⟩ r) (iw .i64 ((iw .i64 (r.pc + (Ins.len ⟨25, xa, xb, imm⟩ : Nat))) + imm))) _ (by unfold exec; rw [reff_ok hf]; simp [isAlu, tabR, Res.eff, Pr.setA, Pr.toPc, Pr.p1, Pr.start, Pr.set7, o0, m1, m2, m7, mp, trE, htk]) rfl
  | false =>
    simp only [go_sem,Nat.reduceAdd,Nat.reduceSub,Nat.reduceEqDiff,Nat.reduceLT,Nat.reduceLeDiff,↓reduceIte,Int.reduceToNat,reduceCtorEq,Int.reduceLT,Int.reduceEq,Ins.av,Ins.cells,Sp.av,Rg.av,Rg.cells,Eff.cellsD,ha,ha19,hb,hata,hatb,wr0 ha.1 ha.2,trE,Eff.av,Eff.cells,hfo,Acc.row,List.length_map,o0,m1,m2,m7,mp,Rg.set]
    exact finN (o0 ⟨25, xa, xb, imm⟩ r) _ (by unfold exec; rw [reff_ok hf]; simp [isAlu, tabR, Res.eff, Pr.setA, Pr.toPc, Pr.p1, Pr.start, Pr.set7, o0, m1, m2, m7, mp, trE, htk]) rfl
theorem rx17_c (x : Ins) (hx : x.ok) (ho : x.op = 17) (s : Sp) (hs : s.ok) (r : Rg) (hr : r.wf) (hf : (ffault s (foot x r)).kind = 0) :
    ACalls Tryz.prog 47 [x.av, s.av, r.av] [] (fun u H => u = .ret (exec x s r).av ∧ H = []) := by
  refine ACalls.up ?_
  refine ACalls.intro (cs := []) (n := 175) Tryz.func47 rfl rfl rfl (by kernel_rfl) rfl ?_
  generalize hpost : (fun (u : Out) (H : Heap) => u = Out.ret (exec x s r).av ∧ H = []) = post
  have fin : ∀ (e : Eff) H, e = exec x s r → Up 0 post (.ret e.av) H := fun e H h => finv (Eff.av_lt e 0) (by rw [← hpost, ← h]; exact ⟨rfl, rfl⟩) H
  have finN : ∀ (e : Eff) H, e = exec x s r → e.data = [] → Up 0 post (.ret (.agg (e.cellsD dnil))) H := fun e H h hd => .le (.ret (.agg (leL_dnil e))) (LeH.refl _) (by have := fin e H h; unfold Eff.av Eff.cells at this; rwa [hd] at this)
  have ha : 0 ≤ x.a ∧ x.a < 8 := ⟨hx.a0, by have := hx.a7; omega⟩
  have hb : 0 ≤ x.b ∧ x.b < 8 := ⟨hx.b0, by have := hx.b7; omega⟩
  have ha19 : x.a.toNat + 1 ≤ 19 := by omega
  have hata := r.at hx.a0 hx.a7
  have hatb := r.at hx.b0 hx.b7
  have hfa := ffault0 hf
  obtain ⟨op, xa, xb, imm⟩ := x
  simp only at ho ha hb ha19 hata hatb
  subst ho
  simp only [go_sem,Nat.reduceAdd,Nat.reduceSub,Nat.reduceEqDiff,Nat.reduceLT,Nat.reduceLeDiff,↓reduceIte,Int.reduceToNat,reduceCtorEq,Int.reduceLT,Int.reduceEq,Ins.av,Ins.cells,Sp.av,Rg.av,Rg.cells]
  refine draw [.qu 0 0, .qu 0 0, .qu 0 0, .qu 0 0, .qu 0 0, .qu 0 0] (by kernel_rfl) (by kernel_rfl) ?_
  simp only [go_sem,Nat.reduceAdd,Nat.reduceSub,Nat.reduceEqDiff,Nat.reduceLT,Nat.reduceLeDiff,↓reduceIte,Int.reduceToNat,reduceCtorEq,Int.reduceLT,Int.reduceEq]
  refine y_call (enters_of Tryz.func85 rfl (by decide)) (fun _ => ACalls.pure_use (rilen_c _ hx) rfl rfl) ?_
  simp only [go_sem,Nat.reduceAdd,Nat.reduceSub,Nat.reduceEqDiff,Nat.reduceLT,Nat.reduceLeDiff,↓reduceIte,Int.reduceToNat,reduceCtorEq,Int.reduceLT,Int.reduceEq]
  refine rK_use (enters_of Tryz.func86 rfl (by decide)) (ACalls.pure_use (rfootprint_c _ hx r hr) rfl rfl) ?_
  simp only [go_sem,Nat.reduceAdd,Nat.reduceSub,Nat.reduceEqDiff,Nat.reduceLT,Nat.reduceLeDiff,↓reduceIte,Int.reduceToNat,reduceCtorEq,Int.reduceLT,Int.reduceEq]
  refine rK_use (enters_of Tryz.func87 rfl (by decide)) (ACalls.pure_use (rFault_c s hs (foot ⟨17, xa, xb, imm⟩ r) (foot_len _ r) (foot_size _ r)) rfl rfl) ?_
  simp only [go_sem,Nat.reduceAdd,Nat.reduceSub,Nat.reduceEqDiff,Nat.reduceLT,Nat.reduceLeDiff,↓reduceIte,Int.reduceToNat,reduceCtorEq,Int.reduceLT,Int.reduceEq,Flt.cells,hf]
  refine rK_use (enters_of Tryz.func88 rfl (by decide)) (ACalls.pure_use (isAlu_c 17) rfl rfl) ?_
  have ht : Ins.hasT ⟨17, xa, xb, imm⟩ = false := by simp [Ins.hasT, isBr]
  have hfo : foot ⟨17, xa, xb, imm⟩ r = [⟨(iw .i64 (r.get xb + imm)), 1, false⟩] := by simp [foot]
  rw [show isAlu 17 = false from rfl]
  simp only [go_sem,Nat.reduceAdd,Nat.reduceSub,Nat.reduceEqDiff,Nat.reduceLT,Nat.reduceLeDiff,↓reduceIte,Int.reduceToNat,reduceCtorEq,Int.reduceLT,Int.reduceEq,Ins.av,Ins.cells,Sp.av,Rg.av,Rg.cells,Eff.cellsD,ha,ha19,hb,hata,hatb,wr0 ha.1 ha.2,trE,Eff.av,Eff.cells]
  refine rK_use (enters_of Tryz.func90 rfl (by decide)) (ACalls.pure_use (rtarget_c _ hx _) rfl rfl) ?_
  rw [ht]
  simp only [go_sem,Nat.reduceAdd,Nat.reduceSub,Nat.reduceEqDiff,Nat.reduceLT,Nat.reduceLeDiff,↓reduceIte,Int.reduceToNat,reduceCtorEq,Int.reduceLT,Int.reduceEq,Ins.av,Ins.cells,Sp.av,Rg.av,Rg.cells,Eff.cellsD,ha,ha19,hb,hata,hatb,wr0 ha.1 ha.2,trE,Eff.av,Eff.cells,hfo,Acc.row,List.length_map,o0,m1,m2,m7,mp,Rg.set]
  refine draw [.qu 0 0, .qu 0 0, .qu 0 0, .qu 0 0, .qu 0 0, .qu 0 0, .qu 0 0, .qu 0 0, .qu 0 0, .mn 0] (by kernel_rfl) (by kernel_rfl) ?_
  simp only [go_sem,Nat.reduceAdd,Nat.reduceSub,Nat.reduceEqDiff,Nat.reduceLT,Nat.reduceLeDiff,↓reduceIte,Int.reduceToNat,reduceCtorEq,Int.reduceLT,Int.reduceEq,Ins.av,Ins.cells,Sp.av,Rg.av,Rg.cells,Eff.cellsD,ha,ha19,hb,hata,hatb,wr0 ha.1 ha.2,trE,Eff.av,Eff.cells,hfo,Acc.row,List.length_map,o0,m1,m2,m7,mp,Rg.set]
  have h01 : 0 ≤ (iw .i64 (r.get xb + imm)) ∧ (iw .i64 (r.get xb + imm)) + ((1 : Nat) : Int) ≤ s.byt.length := in_foot hs (iwI _) (by decide) (by decide) (hfa ⟨(iw .i64 (r.get xb + imm)), 1, false⟩ (by simp [foot]))
  refine y_call (enters_of Tryz.func92 rfl (by decide)) (fun _ => ACalls.pure_use (mem17_c ⟨17, xa, xb, imm⟩ hx rfl s hs r (iw .i64 (r.pc + (Ins.len ⟨17, xa, xb, imm⟩ : Nat))) (iw .i64 (r.get xb + imm)) 1 (by decide) h01.1 h01.2 false (o0 ⟨17, xa, xb, imm⟩ r) rfl) rfl (by simp [AV.lt, ltL, Eff.av_lt])) ?_
  simp only [go_sem,Nat.reduceAdd,Nat.reduceSub,Nat.reduceEqDiff,Nat.reduceLT,Nat.reduceLeDiff,↓reduceIte,Int.reduceToNat,reduceCtorEq,Int.reduceLT,Int.reduceEq,Eff.av,Eff.cells,Eff.cellsD]
  exact fin (m1 (o0 ⟨17, xa, xb, imm⟩ r) xa (rdL (s.sub (iw .i64 (r.get xb + imm)) 1))) _ (by unfold exec; rw [reff_ok hf]; simp [isAlu, tabR, Res.eff, Pr.setA, Pr.toPc, Pr.p1, Pr.start, Pr.set7, o0, m1, m2, m7, mp, trE])
theorem rx18_c (x : Ins) (hx : x.ok) (ho : x.op = 18) (s : Sp) (hs : s.ok) (r : Rg) (hr : r.wf) (hf : (ffault s (foot x r)).kind = 0) :
    ACalls Tryz.prog 47 [x.av, s.av, r.av] [] (fun u H => u = .ret (exec x s r).av ∧ H = []) := by
  refine ACalls.up ?_
  refine ACalls.intro (cs := []) (n := 175) Tryz.func47 rfl rfl rfl (by kernel_rfl) rfl ?_
  generalize hpost : (fun (u : Out) (H : Heap) => u = Out.ret (exec x s r).av ∧ H = []) = post
  have fin : ∀ (e : Eff) H, e = exec x s r → Up 0 post (.ret e.av) H := fun e H h => finv (Eff.av_lt e 0) (by rw [← hpost, ← h]; exact ⟨rfl, rfl⟩) H
  have finN : ∀ (e : Eff) H, e = exec x s r → e.data = [] → Up 0 post (.ret (.agg (e.cellsD dnil))) H := fun e H h hd => .le (.ret (.agg (leL_dnil e))) (LeH.refl _) (by have := fin e H h; unfold Eff.av Eff.cells at this; rwa [hd] at this)
  have ha : 0 ≤ x.a ∧ x.a < 8 := ⟨hx.a0, by have := hx.a7; omega⟩
  have hb : 0 ≤ x.b ∧ x.b < 8 := ⟨hx.b0, by have := hx.b7; omega⟩
  have ha19 : x.a.toNat + 1 ≤ 19 := by omega
  have hata := r.at hx.a0 hx.a7
  have hatb := r.at hx.b0 hx.b7
  have hfa := ffault0 hf
  obtain ⟨op, xa, xb, imm⟩ := x
  simp only at ho ha hb ha19 hata hatb
  subst ho
  simp only [go_sem,Nat.reduceAdd,Nat.reduceSub,Nat.reduceEqDiff,Nat.reduceLT,Nat.reduceLeDiff,↓reduceIte,Int.reduceToNat,reduceCtorEq,Int.reduceLT,Int.reduceEq,Ins.av,Ins.cells,Sp.av,Rg.av,Rg.cells]
  refine draw [.qu 0 0, .qu 0 0, .qu 0 0, .qu 0 0, .qu 0 0, .qu 0 0] (by kernel_rfl) (by kernel_rfl) ?_
  simp only [go_sem,Nat.reduceAdd,Nat.reduceSub,Nat.reduceEqDiff,Nat.reduceLT,Nat.reduceLeDiff,↓reduceIte,Int.reduceToNat,reduceCtorEq,Int.reduceLT,Int.reduceEq]
  refine y_call (enters_of Tryz.func85 rfl (by decide)) (fun _ => ACalls.pure_use (rilen_c _ hx) rfl rfl) ?_
  simp only [go_sem,Nat.reduceAdd,Nat.reduceSub,Nat.reduceEqDiff,Nat.reduceLT,Nat.reduceLeDiff,↓reduceIte,Int.reduceToNat,reduceCtorEq,Int.reduceLT,Int.reduceEq]
  refine rK_use (enters_of Tryz.func86 rfl (by decide)) (ACalls.pure_use (rfootprint_c _ hx r hr) rfl rfl) ?_
  simp only [go_sem,Nat.reduceAdd,Nat.reduceSub,Nat.reduceEqDiff,Nat.reduceLT,Nat.reduceLeDiff,↓reduceIte,Int.reduceToNat,reduceCtorEq,Int.reduceLT,Int.reduceEq]
  refine rK_use (enters_of Tryz.func87 rfl (by decide)) (ACalls.pure_use (rFault_c s hs (foot ⟨18, xa, xb, imm⟩ r) (foot_len _ r) (foot_size _ r)) rfl rfl) ?_
  simp only [go_sem,Nat.reduceAdd,Nat.reduceSub,Nat.reduceEqDiff,Nat.reduceLT,Nat.reduceLeDiff,↓reduceIte,Int.reduceToNat,reduceCtorEq,Int.reduceLT,Int.reduceEq,Flt.cells,hf]
  refine rK_use (enters_of Tryz.func88 rfl (by decide)) (ACalls.pure_use (isAlu_c 18) rfl rfl) ?_
  have ht : Ins.hasT ⟨18, xa, xb, imm⟩ = false := by simp [Ins.hasT, isBr]
  have hfo : foot ⟨18, xa, xb, imm⟩ r = [⟨(iw .i64 (r.get xb + imm)), 8, false⟩] := by simp [foot]
  rw [show isAlu 18 = false from rfl]
  simp only [go_sem,Nat.reduceAdd,Nat.reduceSub,Nat.reduceEqDiff,Nat.reduceLT,Nat.reduceLeDiff,↓reduceIte,Int.reduceToNat,reduceCtorEq,Int.reduceLT,Int.reduceEq,Ins.av,Ins.cells,Sp.av,Rg.av,Rg.cells,Eff.cellsD,ha,ha19,hb,hata,hatb,wr0 ha.1 ha.2,trE,Eff.av,Eff.cells]
  refine rK_use (enters_of Tryz.func90 rfl (by decide)) (ACalls.pure_use (rtarget_c _ hx _) rfl rfl) ?_
  rw [ht]
  simp only [go_sem,Nat.reduceAdd,Nat.reduceSub,Nat.reduceEqDiff,Nat.reduceLT,Nat.reduceLeDiff,↓reduceIte,Int.reduceToNat,reduceCtorEq,Int.reduceLT,Int.reduceEq,Ins.av,Ins.cells,Sp.av,Rg.av,Rg.cells,Eff.cellsD,ha,ha19,hb,hata,hatb,wr0 ha.1 ha.2,trE,Eff.av,Eff.cells,hfo,Acc.row,List.length_map,o0,m1,m2,m7,mp,Rg.set]
  refine draw [.qu 0 0, .qu 0 0, .qu 0 0, .qu 0 0, .qu 0 0, .qu 0 0, .qu 0 0, .qu 0 0, .qu 0 0, .mn 0] (by kernel_rfl) (by kernel_rfl) ?_
  simp only [go_sem,Nat.reduceAdd,Nat.reduceSub,Nat.reduceEqDiff,Nat.reduceLT,Nat.reduceLeDiff,↓reduceIte,Int.reduceToNat,reduceCtorEq,Int.reduceLT,Int.reduceEq,Ins.av,Ins.cells,Sp.av,Rg.av,Rg.cells,Eff.cellsD,ha,ha19,hb,hata,hatb,wr0 ha.1 ha.2,trE,Eff.av,Eff.cells,hfo,Acc.row,List.length_map,o0,m1,m2,m7,mp,Rg.set]
  have h01 : 0 ≤ (iw .i64 (r.get xb + imm)) ∧ (iw .i64 (r.get xb + imm)) + ((8 : Nat) : Int) ≤ s.byt.length := in_foot hs (iwI _) (by decide) (by decide) (hfa ⟨(iw .i64 (r.get xb + imm)), 8, false⟩ (by simp [foot]))
  refine y_call (enters_of Tryz.func92 rfl (by decide)) (fun _ => ACalls.pure_use (mem18_c ⟨18, xa, xb, imm⟩ hx rfl s hs r (iw .i64 (r.pc + (Ins.len ⟨18, xa, xb, imm⟩ : Nat))) (iw .i64 (r.get xb + imm)) 8 (by decide) h01.1 h01.2 false (o0 ⟨18, xa, xb, imm⟩ r) rfl) rfl (by simp [AV.lt, ltL, Eff.av_lt])) ?_
  simp only [go_sem,Nat.reduceAdd,Nat.reduceSub,Nat.reduceEqDiff,Nat.reduceLT,Nat.reduceLeDiff,↓reduceIte,Int.reduceToNat,reduceCtorEq,Int.reduceLT,Int.reduceEq,Eff.av,Eff.cells,Eff.cellsD]
  exact fin (m1 (o0 ⟨18, xa, xb, imm⟩ r) xa (rdL (s.sub (iw .i64 (r.get xb + imm)) 8))) _ (by unfold exec; rw [reff_ok hf]; simp [isAlu, tabR, Res.eff, Pr.setA, Pr.toPc, Pr.p1, Pr.start, Pr.set7, o0, m1, m2, m7, mp, trE])
theorem rx19_c (x : Ins) (hx : x.ok) (ho : x.op = 19) (s : Sp) (hs : s.ok) (r : Rg) (hr : r.wf) (hf : (ffault s (foot x r)).kind = 0) :
    ACalls Tryz.prog 47 [x.av, s.av, r.av] [] (fun u H => u = .ret (exec x s r).av ∧ H = []) := by
  refine ACalls.up ?_
  refine ACalls.intro (cs := []) (n := 175) Tryz.func47 rfl rfl rfl (by kernel_rfl) rfl ?_
  generalize hpost : (fun (u : Out) (H : Heap) => u = Out.ret (exec x s r).av ∧ H = []) = post
  have fin : ∀ (e : Eff) H, e = exec x s r → Up 0 post (.ret e.av) H := fun e H h => finv (Eff.av_lt e 0) (by rw [← hpost, ← h]; exact ⟨rfl, rfl⟩) H
  have finN : ∀ (e : Eff) H, e = exec x s r → e.data = [] → Up 0 post (.ret (.agg (e.cellsD dnil))) H := fun e H h hd => .le (.ret (.agg (leL_dnil e))) (LeH.refl _) (by have := fin e H h; unfold Eff.av Eff.cells at this; rwa [hd] at this)
  have ha : 0 ≤ x.a ∧ x.a < 8 := ⟨hx.a0, by have := hx.a7; omega⟩
  have hb : 0 ≤ x.b ∧ x.b < 8 := ⟨hx.b0, by have := hx.b7; omega⟩
  have ha19 : x.a.toNat + 1 ≤ 19 := by omega
  have hata := r.at hx.a0 hx.a7
  have hatb := r.at hx.b0 hx.b7
  have hfa := ffault0 hf
  obtain ⟨op, xa, xb, imm⟩ := x
  simp only at ho ha hb ha19 hata hatb
  subst ho
  simp only [go_sem,Nat.reduceAdd,Nat.reduceSub,Nat.reduceEqDiff,Nat.reduceLT,Nat.reduceLeDiff,↓reduceIte,Int.reduceToNat,reduceCtorEq,Int.reduceLT,Int.reduceEq,Ins.av,Ins.cells,Sp.av,Rg.av,Rg.cells]
  refine draw [.qu 0 0, .qu 0 0, .qu 0 0, .qu 0 0, .qu 0 0, .qu 0 0] (by kernel_rfl) (by kernel_rfl) ?_
  simp only [go_sem,Nat.reduceAdd,Nat.reduceSub,Nat.reduceEqDiff,Nat.reduceLT,Nat.reduceLeDiff,↓reduceIte,Int.reduceToNat,reduceCtorEq,Int.reduceLT,Int.reduceEq]
  refine y_call (enters_of Tryz.func85 rfl (by decide)) (fun _ => ACalls.pure_use (rilen_c _ hx) rfl rfl) ?_
  simp only [go_sem,Nat.reduceAdd,Nat.reduceSub,Nat.reduceEqDiff,Nat.reduceLT,Nat.reduceLeDiff,↓reduceIte,Int.reduceToNat,reduceCtorEq,Int.reduceLT,Int.reduceEq]
  refine rK_use (enters_of Tryz.func86 rfl (by decide)) (ACalls.pure_use (rfootprint_c _ hx r hr) rfl rfl) ?_
  simp only [go_sem,Nat.reduceAdd,Nat.reduceSub,Nat.reduceEqDiff,Nat.reduceLT,Nat.reduceLeDiff,↓reduceIte,Int.reduceToNat,reduceCtorEq,Int.reduceLT,Int.reduceEq]
  refine rK_use (enters_of Tryz.func87 rfl (by decide)) (ACalls.pure_use (rFault_c s hs (foot ⟨19, xa, xb, imm⟩ r) (foot_len _ r) (foot_size _ r)) rfl rfl) ?_
  simp only [go_sem,Nat.reduceAdd,Nat.reduceSub,Nat.reduceEqDiff,Nat.reduceLT,Nat.reduceLeDiff,↓reduceIte,Int.reduceToNat,reduceCtorEq,Int.reduceLT,Int.reduceEq,Flt.cells,hf]
  refine rK_use (enters_of Tryz.func88 rfl (by decide)) (ACalls.pure_use (isAlu_c 19) rfl rfl) ?_
  have ht : Ins.hasT ⟨19, xa, xb, imm⟩ = false := by simp [Ins.hasT, isBr]
  have hfo : foot ⟨19, xa, xb, imm⟩ r = [⟨(iw .i64 (r.get xb + imm)), 1, true⟩] := by simp [foot]
  rw [show isAlu 19 = false from rfl]
  simp only [go_sem,Nat.reduceAdd,Nat.reduceSub,Nat.reduceEqDiff,Nat.reduceLT,Nat.reduceLeDiff,↓reduceIte,Int.reduceToNat,reduceCtorEq,Int.reduceLT,Int.reduceEq,Ins.av,Ins.cells,Sp.av,Rg.av,Rg.cells,Eff.cellsD,ha,ha19,hb,hata,hatb,wr0 ha.1 ha.2,trE,Eff.av,Eff.cells]
  refine rK_use (enters_of Tryz.func90 rfl (by decide)) (ACalls.pure_use (rtarget_c _ hx _) rfl rfl) ?_
  rw [ht]
  simp only [go_sem,Nat.reduceAdd,Nat.reduceSub,Nat.reduceEqDiff,Nat.reduceLT,Nat.reduceLeDiff,↓reduceIte,Int.reduceToNat,reduceCtorEq,Int.reduceLT,Int.reduceEq,Ins.av,Ins.cells,Sp.av,Rg.av,Rg.cells,Eff.cellsD,ha,ha19,hb,hata,hatb,wr0 ha.1 ha.2,trE,Eff.av,Eff.cells,hfo,Acc.row,List.length_map,o0,m1,m2,m7,mp,Rg.set]
  refine draw [.qu 0 0, .qu 0 0, .qu 0 0, .qu 0 0, .qu 0 0, .qu 0 0, .qu 0 0, .qu 0 0, .qu 0 0, .mn 0] (by kernel_rfl) (by kernel_rfl) ?_
  simp only [go_sem,Nat.reduceAdd,Nat.reduceSub,Nat.reduceEqDiff,Nat.reduceLT,Nat.reduceLeDiff,↓reduceIte,Int.reduceToNat,reduceCtorEq,Int.reduceLT,Int.reduceEq,Ins.av,Ins.cells,Sp.av,Rg.av,Rg.cells,Eff.cellsD,ha,ha19,hb,hata,hatb,wr0 ha.1 ha.2,trE,Eff.av,Eff.cells,hfo,Acc.row,List.length_map,o0,m1,m2,m7,mp,Rg.set]
  refine y_call (enters_of Tryz.func92 rfl (by decide)) (fun _ => ACalls.pure_use (mem19_c ⟨19, xa, xb, imm⟩ hx rfl s hs r (iw .i64 (r.pc + (Ins.len ⟨19, xa, xb, imm⟩ : Nat))) (iw .i64 (r.get xb + imm)) 1 (by decide) true (o0 ⟨19, xa, xb, imm⟩ r) rfl) rfl (by simp [AV.lt, ltL, Eff.av_lt])) ?_
  simp only [go_sem,Nat.reduceAdd,Nat.reduceSub,Nat.reduceEqDiff,Nat.reduceLT,Nat.reduceLeDiff,↓reduceIte,Int.reduceToNat,reduceCtorEq,Int.reduceLT,Int.reduceEq,Eff.av,Eff.cells,Eff.cellsD]
  exact fin (m2 (o0 ⟨19, xa, xb, imm⟩ r) (iw .i64 (r.get xb + imm)) (stL 1 (r.get xa))) _ (by unfold exec; rw [reff_ok hf]; simp [isAlu, tabR, Res.eff, Pr.setA, Pr.toPc, Pr.p1, Pr.start, Pr.set7, o0, m1, m2, m7, mp, trE])
theorem rx20_c (x : Ins) (hx : x.ok) (ho : x.op = 20) (s : Sp) (hs : s.ok) (r : Rg) (hr : r.wf) (hf : (ffault s (foot x r)).kind = 0) :
    ACalls Tryz.prog 47 [x.av, s.av, r.av] [] (fun u H => u = .ret (exec x s r).av ∧ H = []) := by
  refine ACalls.up ?_
  refine ACalls.intro (cs := []) (n := 175) Tryz.func47 rfl rfl rfl (by kernel_rfl) rfl ?_
  generalize hpost : (fun (u : Out) (H : Heap) => u = Out.ret (exec x s r).av ∧ H = []) = post
  have fin : ∀ (e : Eff) H, e = exec x s r → Up 0 post (.ret e.av) H := fun e H h => finv (Eff.av_lt e 0) (by rw [← hpost, ← h]; exact ⟨rfl, rfl⟩) H
  have finN : ∀ (e : Eff) H, e = exec x s r → e.data = [] → Up 0 post (.ret (.agg (e.cellsD dnil))) H := fun e H h hd => .le (.ret (.agg (leL_dnil e))) (LeH.refl _) (by have := fin e H h; unfold Eff.av Eff.cells at this; rwa [hd] at this)
  have ha : 0 ≤ x.a ∧ x.a < 8 := ⟨hx.a0, by have := hx.a7; omega⟩
  have hb : 0 ≤ x.b ∧ x.b < 8 := ⟨hx.b0, by have := hx.b7; omega⟩
  have ha19 : x.a.toNat + 1 ≤ 19 := by omega
  have hata := r.at hx.a0 hx.a7
  have hatb := r.at hx.b0 hx.b7
  have hfa := ffault0 hf
  obtain ⟨op, xa, xb, imm⟩ := x
  simp only at ho ha hb ha19 hata hatb
  subst ho
  simp only [go_sem,Nat.reduceAdd,Nat.reduceSub,Nat.reduceEqDiff,Nat.reduceLT,Nat.reduceLeDiff,↓reduceIte,Int.reduceToNat,reduceCtorEq,Int.reduceLT,Int.reduceEq,Ins.av,Ins.cells,Sp.av,Rg.av,Rg.cells]
  refine draw [.qu 0 0, .qu 0 0, .qu 0 0, .qu 0 0, .qu 0 0, .qu 0 0] (by kernel_rfl) (by kernel_rfl) ?_
  simp only [go_sem,Nat.reduceAdd,Nat.reduceSub,Nat.reduceEqDiff,Nat.reduceLT,Nat.reduceLeDiff,↓reduceIte,Int.reduceToNat,reduceCtorEq,Int.reduceLT,Int.reduceEq]
  refine y_call (enters_of Tryz.func85 rfl (by decide)) (fun _ => ACalls.pure_use (rilen_c _ hx) rfl rfl) ?_
  simp only [go_sem,Nat.reduceAdd,Nat.reduceSub,Nat.reduceEqDiff,Nat.reduceLT,Nat.reduceLeDiff,↓reduceIte,Int.reduceToNat,reduceCtorEq,Int.reduceLT,Int.reduceEq]
  refine rK_use (enters_of Tryz.func86 rfl (by decide)) (ACalls.pure_use (rfootprint_c _ hx r hr) rfl rfl) ?_
  simp only [go_sem,Nat.reduceAdd,Nat.reduceSub,Nat.reduceEqDiff,Nat.reduceLT,Nat.reduceLeDiff,↓reduceIte,Int.reduceToNat,reduceCtorEq,Int.reduceLT,Int.reduceEq]
  refine rK_use (enters_of Tryz.func87 rfl (by decide)) (ACalls.pure_use (rFault_c s hs (foot ⟨20, xa, xb, imm⟩ r) (foot_len _ r) (foot_size _ r)) rfl rfl) ?_
  simp only [go_sem,Nat.reduceAdd,Nat.reduceSub,Nat.reduceEqDiff,Nat.reduceLT,Nat.reduceLeDiff,↓reduceIte,Int.reduceToNat,reduceCtorEq,Int.reduceLT,Int.reduceEq,Flt.cells,hf]
  refine rK_use (enters_of Tryz.func88 rfl (by decide)) (ACalls.pure_use (isAlu_c 20) rfl rfl) ?_
  have ht : Ins.hasT ⟨20, xa, xb, imm⟩ = false := by simp [Ins.hasT, isBr]
  have hfo : foot ⟨20, xa, xb, imm⟩ r = [⟨(iw .i64 (r.get xb + imm)), 8, true⟩] := by simp [foot]
  rw [show isAlu 20 = false from rfl]
  simp only [go_sem,Nat.reduceAdd,Nat.reduceSub,Nat.reduceEqDiff,Nat.reduceLT,Nat.reduceLeDiff,↓reduceIte,Int.reduceToNat,reduceCtorEq,Int.reduceLT,Int.reduceEq,Ins.av,Ins.cells,Sp.av,Rg.av,Rg.cells,Eff.cellsD,ha,ha19,hb,hata,hatb,wr0 ha.1 ha.2,trE,Eff.av,Eff.cells]
  refine rK_use (enters_of Tryz.func90 rfl (by decide)) (ACalls.pure_use (rtarget_c _ hx _) rfl rfl) ?_
  rw [ht]
  simp only [go_sem,Nat.reduceAdd,Nat.reduceSub,Nat.reduceEqDiff,Nat.reduceLT,Nat.reduceLeDiff,↓reduceIte,Int.reduceToNat,reduceCtorEq,Int.reduceLT,Int.reduceEq,Ins.av,Ins.cells,Sp.av,Rg.av,Rg.cells,Eff.cellsD,ha,ha19,hb,hata,hatb,wr0 ha.1 ha.2,trE,Eff.av,Eff.cells,hfo,Acc.row,List.length_map,o0,m1,m2,m7,mp,Rg.set]
  refine draw [.qu 0 0, .qu 0 0, .qu 0 0, .qu 0 0, .qu 0 0, .qu 0 0, .qu 0 0, .qu 0 0, .qu 0 0, .mn 0] (by kernel_rfl) (by kernel_rfl) ?_
  simp only [go_sem,Nat.reduceAdd,Nat.reduceSub,Nat.reduceEqDiff,Nat.reduceLT,Nat.reduceLeDiff,↓reduceIte,Int.reduceToNat,reduceCtorEq,Int.reduceLT,Int.reduceEq,Ins.av,Ins.cells,Sp.av,Rg.av,Rg.cells,Eff.cellsD,ha,ha19,hb,hata,hatb,wr0 ha.1 ha.2,trE,Eff.av,Eff.cells,hfo,Acc.row,List.length_map,o0,m1,m2,m7,mp,Rg.set]
  refine y_call (enters_of Tryz.func92 rfl (by decide)) (fun _ => ACalls.pure_use (mem20_c ⟨20, xa, xb, imm⟩ hx rfl s hs r (iw .i64 (r.pc + (Ins.len ⟨20, xa, xb, imm⟩ : Nat))) (iw .i64 (r.get xb + imm)) 8 (by decide) true (o0 ⟨20, xa, xb, imm⟩ r) rfl) rfl (by simp [AV.lt, ltL, Eff.av_lt])) ?_
  simp only [go_sem,Nat.reduceAdd,Nat.reduceSub,Nat.reduceEqDiff,Nat.reduceLT,Nat.reduceLeDiff,↓reduceIte,Int.reduceToNat,reduceCtorEq,Int.reduceLT,Int.reduceEq,Eff.av,Eff.cells,Eff.cellsD]
  exact fin (m2 (o0 ⟨20, xa, xb, imm⟩ r) (iw .i64 (r.get xb + imm)) (stL 8 (r.get xa))) _ (by unfold exec; rw [reff_ok hf]; simp [isAlu, tabR, Res.eff, Pr.setA, Pr.toPc, Pr.p1, Pr.start, Pr.set7, o0, m1, m2, m7, mp, trE])
theorem rx27_c (x : Ins) (hx : x.ok) (ho : x.op = 27) (s : Sp) (hs : s.ok) (r : Rg) (hr : r.wf) (hf : (ffault s (foot x r)).kind = 0) :
    ACalls Tryz.prog 47 [x.av, s.av, r.av] [] (fun u H => u = .ret (exec x s r).av ∧ H = []) := by
  refine ACalls.up ?_
  refine ACalls.intro (cs := []) (n := 175) Tryz.func47 rfl rfl rfl (by kernel_rfl) rfl ?_
  generalize hpost : (fun (u : Out) (H : Heap) => u = Out.ret (exec x s r).av ∧ H = []) = post
  have fin : ∀ (e : Eff) H, e = exec x s r → Up 0 post (.ret e.av) H := fun e H h => finv (Eff.av_lt e 0) (by rw [← hpost, ← h]; exact ⟨rfl, rfl⟩) H
  have finN : ∀ (e : Eff) H, e = exec x s r → e.data = [] → Up 0 post (.ret (.agg (e.cellsD dnil))) H := fun e H h hd => .le (.ret (.agg (leL_dnil e))) (LeH.refl _) (by have := fin e H h; unfold Eff.av Eff.cells at this; rwa [hd] at this)
  have ha : 0 ≤ x.a ∧ x.a < 8 := ⟨hx.a0, by have := hx.a7; omega⟩
  have hb : 0 ≤ x.b ∧ x.b < 8 := ⟨hx.b0, by have := hx.b7; omega⟩
  have ha19 : x.a.toNat + 1 ≤ 19 := by omega
  have hata := r.at hx.a0 hx.a7
  have hatb := r.at hx.b0 hx.b7
  have hfa := ffault0 hf
  obtain ⟨op, xa, xb, imm⟩ := x
  simp only at ho ha hb ha19 hata hatb
  subst ho
  simp only [go_sem,Nat.reduceAdd,Nat.reduceSub,Nat.reduceEqDiff,Nat.reduceLT,Nat.reduceLeDiff,↓reduceIte,Int.reduceToNat,reduceCtorEq,Int.reduceLT,Int.reduceEq,Ins.av,Ins.cells,Sp.av,Rg.av,Rg.cells]
  refine draw [.qu 0 0, .qu 0 0, .qu 0 0, .qu 0 0, .qu 0 0, .qu 0 0] (by kernel_rfl) (by kernel_rfl) ?_
  simp only [go_sem,Nat.reduceAdd,Nat.reduceSub,Nat.reduceEqDiff,Nat.reduceLT,Nat.reduceLeDiff,↓reduceIte,Int.reduceToNat,reduceCtorEq,Int.reduceLT,Int.reduceEq]
  refine y_call (enters_of Tryz.func85 rfl (by decide)) (fun _ => ACalls.pure_use (rilen_c _ hx) rfl rfl) ?_
  simp only [go_sem,Nat.reduceAdd,Nat.reduceSub,Nat.reduceEqDiff,Nat.reduceLT,Nat.reduceLeDiff,↓reduceIte,Int.reduceToNat,reduceCtorEq,Int.reduceLT,Int.reduceEq]
  refine rK_use (enters_of Tryz.func86 rfl (by decide)) (ACalls.pure_use (rfootprint_c _ hx r hr) rfl rfl) ?_
  simp only [go_sem,Nat.reduceAdd,Nat.reduceSub,Nat.reduceEqDiff,Nat.reduceLT,Nat.reduceLeDiff,↓reduceIte,Int.reduceToNat,reduceCtorEq,Int.reduceLT,Int.reduceEq]
  refine rK_use (enters_of Tryz.func87 rfl (by decide)) (ACalls.pure_use (rFault_c s hs (foot ⟨27, xa, xb, imm⟩ r) (foot_len _ r) (foot_size _ r)) rfl rfl) ?_
  simp only [go_sem,Nat.reduceAdd,Nat.reduceSub,Nat.reduceEqDiff,Nat.reduceLT,Nat.reduceLeDiff,↓reduceIte,Int.reduceToNat,reduceCtorEq,Int.reduceLT,Int.reduceEq,Flt.cells,hf]
  refine rK_use (enters_of Tryz.func88 rfl (by decide)) (ACalls.pure_use (isAlu_c 27) rfl rfl) ?_
  have ht : Ins.hasT ⟨27, xa, xb, imm⟩ = true := by simp [Ins.hasT, isBr, hx]
  have hg : Ins.tgt ⟨27, xa, xb, imm⟩ (iw .i64 (r.pc + (Ins.len ⟨27, xa, xb, imm⟩ : Nat))) = iw .i64 ((iw .i64 (r.pc + (Ins.len ⟨27, xa, xb, imm⟩ : Nat))) + imm) := by rw [Ins.tgt, if_pos ⟨hx, rfl⟩]
  have hfo : foot ⟨27, xa, xb, imm⟩ r = [⟨(iw .i64 (r.r7 - 8)), 8, true⟩] := by simp [foot]
  rw [show isAlu 27 = false from rfl]
  simp only [go_sem,Nat.reduceAdd,Nat.reduceSub,Nat.reduceEqDiff,Nat.reduceLT,Nat.reduceLeDiff,↓reduceIte,Int.reduceToNat,reduceCtorEq,Int.reduceLT,Int.reduceEq,Ins.av,Ins.cells,Sp.av,Rg.av,Rg.cells,Eff.cellsD,ha,ha19,hb,hata,hatb,wr0 ha.1 ha.2,trE,Eff.av,Eff.cells]
  refine rK_use (enters_of Tryz.func90 rfl (by decide)) (ACalls.pure_use (rtarget_c _ hx _) rfl rfl) ?_
  rw [ht]
  rw [hg]
  simp only [go_sem,Nat.reduceAdd,Nat.reduceSub,Nat.reduceEqDiff,Nat.reduceLT,Nat.reduceLeDiff,↓reduceIte,Int.reduceToNat,reduceCtorEq,Int.reduceLT,Int.reduceEq,Ins.av,Ins.cells,Sp.av,Rg.av,Rg.cells,Eff.cellsD,ha,ha19,hb,hata,hatb,wr0 ha.1 ha.2,trE,Eff.av,Eff.cells]
  refine rK_use (enters_of Tryz.func91 rfl (by decide)) (ACalls.pure_use (holds_c _ hx r) rfl rfl) ?_
  rw [show taken ⟨27, xa, xb, imm⟩ r = true by simp [taken]]
  simp only [go_sem,Nat.reduceAdd,Nat.reduceSub,Nat.reduceEqDiff,Nat.reduceLT,Nat.reduceLeDiff,↓reduceIte,Int.reduceToNat,reduceCtorEq,Int.reduceLT,Int.reduceEq,Ins.av,Ins.cells,Sp.av,Rg.av,Rg.cells,Eff.cellsD,ha,ha19,hb,hata,hatb,wr0 ha.1 ha.2,trE,Eff.av,Eff.cells,hfo,Acc.row,List.length_map,o0,m1,m2,m7,mp,Rg.set]
  refine draw [.qu 0 0, .qu 0 0, .qu 0 0, .qu 0 0, .qu 0 0, .qu 0 0, .qu 0 0, .qu 0 0, .qu 0 0, .mn 0] (by kernel_rfl) (by kernel_rfl) ?_
  simp only [go_sem,Nat.reduceAdd,Nat.reduceSub,Nat.reduceEqDiff,Nat.reduceLT,Nat.reduceLeDiff,↓reduceIte,Int.reduceToNat,reduceCtorEq,Int.reduceLT,Int.reduceEq,Ins.av,Ins.cells,Sp.av,Rg.av,Rg.cells,Eff.cellsD,ha,ha19,hb,hata,hatb,wr0 ha.1 ha.2,trE,Eff.av,Eff.cells,hfo,Acc.row,List.length_map,o0,m1,m2,m7,mp,Rg.set]
  refine y_call (enters_of Tryz.func92 rfl (by decide)) (fun _ => ACalls.pure_use (mem27_c ⟨27, xa, xb, imm⟩ hx rfl s hs r (iw .i64 (r.pc + (Ins.len ⟨27, xa, xb, imm⟩ : Nat))) (iw .i64 (r.r7 - 8)) 8 (by decide) true (mp (o0 ⟨27, xa, xb, imm⟩ r) (iw .i64 ((iw .i64 (r.pc + (Ins.len ⟨27, xa, xb, imm⟩ : Nat))) + imm))) rfl) rfl (by simp [AV.lt, ltL, Eff.av_lt])) ?_
  simp only [go_sem,Nat.reduceAdd,Nat.reduceSub,Nat.reduceEqDiff,Nat.reduceLT,Nat.reduceLeDiff,↓reduceIte,Int.reduceToNat,reduceCtorEq,Int.reduceLT,Int.reduceEq,Eff.av,Eff.cells,Eff.cellsD]
  exact fin (m7 (m2 (mp (o0 ⟨27, xa, xb, imm⟩ r) (iw .i64 ((iw .i64 (r.pc + (Ins.len ⟨27, xa, xb, imm⟩ : Nat))) + imm))) (iw .i64 (r.r7 - 8)) (stL 8 (iw .i64 (r.pc + (Ins.len ⟨27, xa, xb, imm⟩ : Nat))))) (iw .i64 (r.r7 - 8))) _ (by unfold exec; rw [reff_ok hf]; simp [isAlu, tabR, Res.eff, Pr.setA, Pr.toPc, Pr.p1, Pr.start, Pr.set7, o0, m1, m2, m7, mp, trE])
theorem rx28_c (x : Ins) (hx : x.ok) (ho : x.op = 28) (s : Sp) (hs : s.ok) (r : Rg) (hr : r.wf) (hf : (ffault s (foot x r)).kind = 0) :
    ACalls Tryz.prog 47 [x.av, s.av, r.av] [] (fun u H => u = .ret (exec x s r).av ∧ H = []) := by
  refine ACalls.up ?_
  refine ACalls.intro (cs := []) (n := 175) Tryz.func47 rfl rfl rfl (by kernel_rfl) rfl ?_
  generalize hpost : (fun (u : Out) (H : Heap) => u = Out.ret (exec x s r).av ∧ H = []) = post
  have fin : ∀ (e : Eff) H, e = exec x s r → Up 0 post (.ret e.av) H := fun e H h => finv (Eff.av_lt e 0) (by rw [← hpost, ← h]; exact ⟨rfl, rfl⟩) H
  have finN : ∀ (e : Eff) H, e = exec x s r → e.data = [] → Up 0 post (.ret (.agg (e.cellsD dnil))) H := fun e H h hd => .le (.ret (.agg (leL_dnil e))) (LeH.refl _) (by have := fin e H h; unfold Eff.av Eff.cells at this; rwa [hd] at this)
  have ha : 0 ≤ x.a ∧ x.a < 8 := ⟨hx.a0, by have := hx.a7; omega⟩
  have hb : 0 ≤ x.b ∧ x.b < 8 := ⟨hx.b0, by have := hx.b7; omega⟩
  have ha19 : x.a.toNat + 1 ≤ 19 := by omega
  have hata := r.at hx.a0 hx.a7
  have hatb := r.at hx.b0 hx.b7
  have hfa := ffault0 hf
  obtain ⟨op, xa, xb, imm⟩ := x
  simp only at ho ha hb ha19 hata hatb
  subst ho
  simp only [go_sem,Nat.reduceAdd,Nat.reduceSub,Nat.reduceEqDiff,Nat.reduceLT,Nat.reduceLeDiff,↓reduceIte,Int.reduceToNat,reduceCtorEq,Int.reduceLT,Int.reduceEq,Ins.av,Ins.cells,Sp.av,Rg.av,Rg.cells]
  refine draw [.qu 0 0, .qu 0 0, .qu 0 0, .qu 0 0, .qu 0 0, .qu 0 0] (by kernel_rfl) (by kernel_rfl) ?_
  simp only [go_sem,Nat.reduceAdd,Nat.reduceSub,Nat.reduceEqDiff,Nat.reduceLT,Nat.reduceLeDiff,↓reduceIte,Int.reduceToNat,reduceCtorEq,Int.reduceLT,Int.reduceEq]
  refine y_call (enters_of Tryz.func85 rfl (by decide)) (fun _ => ACalls.pure_use (rilen_c _ hx) rfl rfl) ?_
  simp only [go_sem,Nat.reduceAdd,Nat.reduceSub,Nat.reduceEqDiff,Nat.reduceLT,Nat.reduceLeDiff,↓reduceIte,Int.reduceToNat,reduceCtorEq,Int.reduceLT,Int.reduceEq]
  refine rK_use (enters_of Tryz.func86 rfl (by decide)) (ACalls.pure_use (rfootprint_c _ hx r hr) rfl rfl) ?_
  simp only [go_sem,Nat.reduceAdd,Nat.reduceSub,Nat.reduceEqDiff,Nat.reduceLT,Nat.reduceLeDiff,↓reduceIte,Int.reduceToNat,reduceCtorEq,Int.reduceLT,Int.reduceEq]
  refine rK_use (enters_of Tryz.func87 rfl (by decide)) (ACalls.pure_use (rFault_c s hs (foot ⟨28, xa, xb, imm⟩ r) (foot_len _ r) (foot_size _ r)) rfl rfl) ?_
  simp only [go_sem,Nat.reduceAdd,Nat.reduceSub,Nat.reduceEqDiff,Nat.reduceLT,Nat.reduceLeDiff,↓reduceIte,Int.reduceToNat,reduceCtorEq,Int.reduceLT,Int.reduceEq,Flt.cells,hf]
  refine rK_use (enters_of Tryz.func88 rfl (by decide)) (ACalls.pure_use (isAlu_c 28) rfl rfl) ?_
  have ht : Ins.hasT ⟨28, xa, xb, imm⟩ = false := by simp [Ins.hasT, isBr]
  have hfo : foot ⟨28, xa, xb, imm⟩ r = [⟨(iw .i64 (r.r7 - 8)), 8, true⟩] := by simp [foot]
  rw [show isAlu 28 = false from rfl]
  simp only [go_sem,Nat.reduceAdd,Nat.reduceSub,Nat.reduceEqDiff,Nat.reduceLT,Nat.reduceLeDiff,↓reduceIte,Int.reduceToNat,reduceCtorEq,Int.reduceLT,Int.reduceEq,Ins.av,Ins.cells,Sp.av,Rg.av,Rg.cells,Eff.cellsD,ha,ha19,hb,hata,hatb,wr0 ha.1 ha.2,trE,Eff.av,Eff.cells]
  refine rK_use (enters_of Tryz.func90 rfl (by decide)) (ACalls.pure_use (rtarget_c _ hx _) rfl rfl) ?_
  rw [ht]
  simp only [go_sem,Nat.reduceAdd,Nat.reduceSub,Nat.reduceEqDiff,Nat.reduceLT,Nat.reduceLeDiff,↓reduceIte,Int.reduceToNat,reduceCtorEq,Int.reduceLT,Int.reduceEq,Ins.av,Ins.cells,Sp.av,Rg.av,Rg.cells,Eff.cellsD,ha,ha19,hb,hata,hatb,wr0 ha.1 ha.2,trE,Eff.av,Eff.cells,hfo,Acc.row,List.length_map,o0,m1,m2,m7,mp,Rg.set]
  refine draw [.qu 0 0, .qu 0 0, .qu 0 0, .qu 0 0, .qu 0 0, .qu 0 0, .qu 0 0, .qu 0 0, .qu 0 0, .mn 0] (by kernel_rfl) (by kernel_rfl) ?_
  simp only [go_sem,Nat.reduceAdd,Nat.reduceSub,Nat.reduceEqDiff,Nat.reduceLT,Nat.reduceLeDiff,↓reduceIte,Int.reduceToNat,reduceCtorEq,Int.reduceLT,Int.reduceEq,Ins.av,Ins.cells,Sp.av,Rg.av,Rg.cells,Eff.cellsD,ha,ha19,hb,hata,hatb,wr0 ha.1 ha.2,trE,Eff.av,Eff.cells,hfo,Acc.row,List.length_map,o0,m1,m2,m7,mp,Rg.set]
  refine y_call (enters_of Tryz.func92 rfl (by decide)) (fun _ => ACalls.pure_use (mem28_c ⟨28, xa, xb, imm⟩ hx rfl s hs r (iw .i64 (r.pc + (Ins.len ⟨28, xa, xb, imm⟩ : Nat))) (iw .i64 (r.r7 - 8)) 8 (by decide) true (o0 ⟨28, xa, xb, imm⟩ r) rfl) rfl (by simp [AV.lt, ltL, Eff.av_lt])) ?_
  simp only [go_sem,Nat.reduceAdd,Nat.reduceSub,Nat.reduceEqDiff,Nat.reduceLT,Nat.reduceLeDiff,↓reduceIte,Int.reduceToNat,reduceCtorEq,Int.reduceLT,Int.reduceEq,Eff.av,Eff.cells,Eff.cellsD]
  exact fin (mp (m7 (m2 (o0 ⟨28, xa, xb, imm⟩ r) (iw .i64 (r.r7 - 8)) (stL 8 (iw .i64 (r.pc + (Ins.len ⟨28, xa, xb, imm⟩ : Nat))))) (iw .i64 (r.r7 - 8))) (r.get xa)) _ (by unfold exec; rw [reff_ok hf]; simp [isAlu, tabR, Res.eff, Pr.setA, Pr.toPc, Pr.p1, Pr.start, Pr.set7, o0, m1, m2, m7, mp, trE])
theorem rx29_c (x : Ins) (hx : x.ok) (ho : x.op = 29) (s : Sp) (hs : s.ok) (r : Rg) (hr : r.wf) (hf : (ffault s (foot x r)).kind = 0) :
    ACalls Tryz.prog 47 [x.av, s.av, r.av] [] (fun u H => u = .ret (exec x s r).av ∧ H = []) := by
  refine ACalls.up ?_
  refine ACalls.intro (cs := []) (n := 175) Tryz.func47 rfl rfl rfl (by kernel_rfl) rfl ?_
  generalize hpost : (fun (u : Out) (H : Heap) => u = Out.ret (exec x s r).av ∧ H = []) = post
  have fin : ∀ (e : Eff) H, e = exec x s r → Up 0 post (.ret e.av) H := fun e H h => finv (Eff.av_lt e 0) (by rw [← hpost, ← h]; exact ⟨rfl, rfl⟩) H
  have finN : ∀ (e : Eff) H, e = exec x s r → e.data = [] → Up 0 post (.ret (.agg (e.cellsD dnil))) H := fun e H h hd => .le (.ret (.agg (leL_dnil e))) (LeH.refl _) (by have := fin e H h; unfold Eff.av Eff.cells at this; rwa [hd] at this)
  have ha : 0 ≤ x.a ∧ x.a < 8 := ⟨hx.a0, by have := hx.a7; omega⟩
  have hb : 0 ≤ x.b ∧ x.b < 8 := ⟨hx.b0, by have := hx.b7; omega⟩
  have ha19 : x.a.toNat + 1 ≤ 19 := by omega
  have hata := r.at hx.a0 hx.a7
  have hatb := r.at hx.b0 hx.b7
  have hfa := ffault0 hf
  obtain ⟨op, xa, xb, imm⟩ := x
  simp only at ho ha hb ha19 hata hatb
  subst ho
  simp only [go_sem,Nat.reduceAdd,Nat.reduceSub,Nat.reduceEqDiff,Nat.reduceLT,Nat.reduceLeDiff,↓reduceIte,Int.reduceToNat,reduceCtorEq,Int.reduceLT,Int.reduceEq,Ins.av,Ins.cells,Sp.av,Rg.av,Rg.cells]
  refine draw [.qu 0 0, .qu 0 0, .qu 0 0, .qu 0 0, .qu 0 0, .qu 0 0] (by kernel_rfl) (by kernel_rfl) ?_
  simp only [go_sem,Nat.reduceAdd,Nat.reduceSub,Nat.reduceEqDiff,Nat.reduceLT,Nat.reduceLeDiff,↓reduceIte,Int.reduceToNat,reduceCtorEq,Int.reduceLT,Int.reduceEq]
  refine y_call (enters_of Tryz.func85 rfl (by decide)) (fun _ => ACalls.pure_use (rilen_c _ hx) rfl rfl) ?_
  simp only [go_sem,Nat.reduceAdd,Nat.reduceSub,Nat.reduceEqDiff,Nat.reduceLT,Nat.reduceLeDiff,↓reduceIte,Int.reduceToNat,reduceCtorEq,Int.reduceLT,Int.reduceEq]
  refine rK_use (enters_of Tryz.func86 rfl (by decide)) (ACalls.pure_use (rfootprint_c _ hx r hr) rfl rfl) ?_
  simp only [go_sem,Nat.reduceAdd,Nat.reduceSub,Nat.reduceEqDiff,Nat.reduceLT,Nat.reduceLeDiff,↓reduceIte,Int.reduceToNat,reduceCtorEq,Int.reduceLT,Int.reduceEq]
  refine rK_use (enters_of Tryz.func87 rfl (by decide)) (ACalls.pure_use (rFault_c s hs (foot ⟨29, xa, xb, imm⟩ r) (foot_len _ r) (foot_size _ r)) rfl rfl) ?_
  simp only [go_sem,Nat.reduceAdd,Nat.reduceSub,Nat.reduceEqDiff,Nat.reduceLT,Nat.reduceLeDiff,↓reduceIte,Int.reduceToNat,reduceCtorEq,Int.reduceLT,Int.reduceEq,Flt.cells,hf]
  refine rK_use (enters_of Tryz.func88 rfl (by decide)) (ACalls.pure_use (isAlu_c 29) rfl rfl) ?_
  have ht : Ins.hasT ⟨29, xa, xb, imm⟩ = false := by simp [Ins.hasT, isBr]
  have hfo : foot ⟨29, xa, xb, imm⟩ r = [⟨r.r7, 8, false⟩] := by simp [foot]
  rw [show isAlu 29 = false from rfl]
  simp only [go_sem,Nat.reduceAdd,Nat.reduceSub,Nat.reduceEqDiff,Nat.reduceLT,Nat.reduceLeDiff,↓reduceIte,Int.reduceToNat,reduceCtorEq,Int.reduceLT,Int.reduceEq,Ins.av,Ins.cells,Sp.av,Rg.av,Rg.cells,Eff.cellsD,ha,ha19,hb,hata,hatb,wr0 ha.1 ha.2,trE,Eff.av,Eff.cells]
  refine rK_use (enters_of Tryz.func90 rfl (by decide)) (ACalls.pure_use (rtarget_c _ hx _) rfl rfl) ?_
  rw [ht]
  simp only [go_sem,Nat.reduceAdd,Nat.reduceSub,Nat.reduceEqDiff,Nat.reduceLT,Nat.reduceLeDiff,↓reduceIte,Int.reduceToNat,reduceCtorEq,Int.reduceLT,Int.reduceEq,Ins.av,Ins.cells,Sp.av,Rg.av,Rg.cells,Eff.cellsD,ha,ha19,hb,hata,hatb,wr0 ha.1 ha.2,trE,Eff.av,Eff.cells,hfo,Acc.row,List.length_map,o0,m1,m2,m7,mp,Rg.set]
  refine draw [.qu 0 0, .qu 0 0, .qu 0 0, .qu 0 0, .qu 0 0, .qu 0 0, .qu 0 0, .qu 0 0, .qu 0 0, .mn 0] (by kernel_rfl) (by kernel_rfl) ?_
  simp only [go_sem,Nat.reduceAdd,Nat.reduceSub,Nat.reduceEqDiff,Nat.reduceLT,Nat.reduceLeDiff,↓reduceIte,Int.reduceToNat,reduceCtorEq,Int.reduceLT,Int.reduceEq,Ins.av,Ins.cells,Sp.av,Rg.av,Rg.cells,Eff.cellsD,ha,ha19,hb,hata,hatb,wr0 ha.1 ha.2,trE,Eff.av,Eff.cells,hfo,Acc.row,List.length_map,o0,m1,m2,m7,mp,Rg.set]
  have h01 : 0 ≤ r.r7 ∧ r.r7 + ((8 : Nat) : Int) ≤ s.byt.length := in_foot hs (hr.reg _ (by simp [Rg.list])) (by decide) (by decide) (hfa ⟨r.r7, 8, false⟩ (by simp [foot]))
  refine y_call (enters_of Tryz.func92 rfl (by decide)) (fun _ => ACalls.pure_use (mem29_c ⟨29, xa, xb, imm⟩ hx rfl s hs r (iw .i64 (r.pc + (Ins.len ⟨29, xa, xb, imm⟩ : Nat))) r.r7 8 (by decide) h01.1 h01.2 false (o0 ⟨29, xa, xb, imm⟩ r) rfl) rfl (by simp [AV.lt, ltL, Eff.av_lt])) ?_
  simp only [go_sem,Nat.reduceAdd,Nat.reduceSub,Nat.reduceEqDiff,Nat.reduceLT,Nat.reduceLeDiff,↓reduceIte,Int.reduceToNat,reduceCtorEq,Int.reduceLT,Int.reduceEq,Eff.av,Eff.cells,Eff.cellsD]
  exact fin (m7 (mp (o0 ⟨29, xa, xb, imm⟩ r) (rdL (s.sub r.r7 8))) (iw .i64 (r.r7 + 8))) _ (by unfold exec; rw [reff_ok hf]; simp [isAlu, tabR, Res.eff, Pr.setA, Pr.toPc, Pr.p1, Pr.start, Pr.set7, o0, m1, m2, m7, mp, trE])
theorem rx30_c (x : Ins) (hx : x.ok) (ho : x.op = 30) (s : Sp) (hs : s.ok) (r : Rg) (hr : r.wf) (hf : (ffault s (foot x r)).kind = 0) :
    ACalls Tryz.prog 47 [x.av, s.av, r.av] [] (fun u H => u = .ret (exec x s r).av ∧ H = []) := by
  refine ACalls.up ?_
  refine ACalls.intro (cs := []) (n := 175) Tryz.func47 rfl rfl rfl (by kernel_rfl) rfl ?_
  generalize hpost : (fun (u : Out) (H : Heap) => u = Out.ret (exec x s r).av ∧ H = []) = post
  have fin : ∀ (e : Eff) H, e = exec x s r → Up 0 post (.ret e.av) H := fun e H h => finv (Eff.av_lt e 0) (by rw [← hpost, ← h]; exact ⟨rfl, rfl⟩) H
  have finN : ∀ (e : Eff) H, e = exec x s r → e.data = [] → Up 0 post (.ret (.agg (e.cellsD dnil))) H := fun e H h hd => .le (.ret (.agg (leL_dnil e))) (LeH.refl _) (by have := fin e H h; unfold Eff.av Eff.cells at this; rwa [hd] at this)
  have ha : 0 ≤ x.a ∧ x.a < 8 := ⟨hx.a0, by have := hx.a7; omega⟩
  have hb : 0 ≤ x.b ∧ x.b < 8 := ⟨hx.b0, by have := hx.b7; omega⟩
  have ha19 : x.a.toNat + 1 ≤ 19 := by omega
  have hata := r.at hx.a0 hx.a7
  have hatb := r.at hx.b0 hx.b7
  have hfa := ffault0 hf
  obtain ⟨op, xa, xb, imm⟩ := x
  simp only at ho ha hb ha19 hata hatb
  subst ho
  simp only [go_sem,Nat.reduceAdd,Nat.reduceSub,Nat.reduceEqDiff,Nat.reduceLT,Nat.reduceLeDiff,↓reduceIte,Int.reduceToNat,reduceCtorEq,Int.reduceLT,Int.reduceEq,Ins.av,Ins.cells,Sp.av,Rg.av,Rg.cells]
  refine draw [.qu 0 0, .qu 0 0, .qu 0 0, .qu 0 0, .qu 0 0, .qu 0 0] (by kernel_rfl) (by kernel_rfl) ?_
  simp only [go_sem,Nat.reduceAdd,Nat.reduceSub,Nat.reduceEqDiff,Nat.reduceLT,Nat.reduceLeDiff,↓reduceIte,Int.reduceToNat,reduceCtorEq,Int.reduceLT,Int.reduceEq]
  refine y_call (enters_of Tryz.func85 rfl (by decide)) (fun _ => ACalls.pure_use (rilen_c _ hx) rfl rfl) ?_
  simp only [go_sem,Nat.reduceAdd,Nat.reduceSub,Nat.reduceEqDiff,Nat.reduceLT,Nat.reduceLeDiff,↓reduceIte,Int.reduceToNat,reduceCtorEq,Int.reduceLT,Int.reduceEq]
  refine rK_use (enters_of Tryz.func86 rfl (by decide)) (ACalls.pure_use (rfootprint_c _ hx r hr) rfl rfl) ?_
  simp only [go_sem,Nat.reduceAdd,Nat.reduceSub,Nat.reduceEqDiff,Nat.reduceLT,Nat.reduceLeDiff,↓reduceIte,Int.reduceToNat,reduceCtorEq,Int.reduceLT,Int.reduceEq]
  refine rK_use (enters_of Tryz.func87 rfl (by decide)) (ACalls.pure_use (rFault_c s hs (foot ⟨30, xa, xb, imm⟩ r) (foot_len _ r) (foot_size _ r)) rfl rfl) ?_
  simp only [go_sem,Nat.reduceAdd,Nat.reduceSub,Nat.reduceEqDiff,Nat.reduceLT,Nat.reduceLeDiff,↓reduceIte,Int.reduceToNat,reduceCtorEq,Int.reduceLT,Int.reduceEq,Flt.cells,hf]
  refine rK_use (enters_of Tryz.func88 rfl (by decide)) (ACalls.pure_use (isAlu_c 30) rfl rfl) ?_
  have ht : Ins.hasT ⟨30, xa, xb, imm⟩ = false := by simp [Ins.hasT, isBr]
  have hfo : foot ⟨30, xa, xb, imm⟩ r = [⟨(iw .i64 (r.r7 - 8)), 8, true⟩] := by simp [foot]
  rw [show isAlu 30 = false from rfl]
  simp only [go_sem,Nat.reduceAdd,Nat.reduceSub,Nat.reduceEqDiff,Nat.reduceLT,Nat.reduceLeDiff,↓reduceIte,Int.reduceToNat,reduceCtorEq,Int.reduceLT,Int.reduceEq,Ins.av,Ins.cells,Sp.av,Rg.av,Rg.cells,Eff.cellsD,ha,ha19,hb,hata,hatb,wr0 ha.1 ha.2,trE,Eff.av,Eff.cells]
  refine rK_use (enters_of Tryz.func90 rfl (by decide)) (ACalls.pure_use (rtarget_c _ hx _) rfl rfl) ?_
  rw [ht]
  simp only [go_sem,Nat.reduceAdd,Nat.reduceSub,Nat.reduceEqDiff,Nat.reduceLT,Nat.reduceLeDiff,↓reduceIte,Int.reduceToNat,reduceCtorEq,Int.reduceLT,Int.reduceEq,Ins.av,Ins.cells,Sp.av,Rg.av,Rg.cells,Eff.cellsD,ha,ha19,hb,hata,hatb,wr0 ha.1 ha.2,trE,Eff.av,Eff.cells,hfo,Acc.row,List.length_map,o0,m1,m2,m7,mp,Rg.set]
  refine draw [.qu 0 0, .qu 0 0, .qu 0 0, .qu 0 0, .qu 0 0, .qu 0 0, .qu 0 0, .qu 0 0, .qu 0 0, .mn 0] (by kernel_rfl) (by kernel_rfl) ?_
  simp only [go_sem,Nat.reduceAdd,Nat.reduceSub,Nat.reduceEqDiff,Nat.reduceLT,Nat.reduceLeDiff,↓reduceIte,Int.reduceToNat,reduceCtorEq,Int.reduceLT,Int.reduceEq,Ins.av,Ins.cells,Sp.av,Rg.av,Rg.cells,Eff.cellsD,ha,ha19,hb,hata,hatb,wr0 ha.1 ha.2,trE,Eff.av,Eff.cells,hfo,Acc.row,List.length_map,o0,m1,m2,m7,mp,Rg.set]
  refine y_call (enters_of Tryz.func92 rfl (by decide)) (fun _ => ACalls.pure_use (mem30_c ⟨30, xa, xb, imm⟩ hx rfl s hs r (iw .i64 (r.pc + (Ins.len ⟨30, xa, xb, imm⟩ : Nat))) (iw .i64 (r.r7 - 8)) 8 (by decide) true (o0 ⟨30, xa, xb, imm⟩ r) rfl) rfl (by simp [AV.lt, ltL, Eff.av_lt])) ?_
  simp only [go_sem,Nat.reduceAdd,Nat.reduceSub,Nat.reduceEqDiff,Nat.reduceLT,Nat.reduceLeDiff,↓reduceIte,Int.reduceToNat,reduceCtorEq,Int.reduceLT,Int.reduceEq,Eff.av,Eff.cells,Eff.cellsD]
  exact fin (m7 (m2 (o0 ⟨30, xa, xb, imm⟩ r) (iw .i64 (r.r7 - 8)) (stL 8 (r.get xa))) (iw .i64 (r.r7 - 8))) _ (by unfold exec; rw [reff_ok hf]; simp [isAlu, tabR, Res.eff, Pr.setA, Pr.toPc, Pr.p1, Pr.start, Pr.set7, o0, m1, m2, m7, mp, trE])
theorem rx31_c (x : Ins) (hx : x.ok) (ho : x.op = 31) (s : Sp) (hs : s.ok) (r : Rg) (hr : r.wf) (hf : (ffault s (foot x r)).kind = 0) :
    ACalls Tryz.prog 47 [x.av, s.av, r.av] [] (fun u H => u = .ret (exec x s r).av ∧ H = []) := by
  refine ACalls.up ?_
  refine ACalls.intro (cs := []) (n := 175) Tryz.func47 rfl rfl rfl (by kernel_rfl) rfl ?_
  generalize hpost : (fun (u : Out) (H : Heap) => u = Out.ret (exec x s r).av ∧ H = []) = post
  have fin : ∀ (e : Eff) H, e = exec x s r → Up 0 post (.ret e.av) H := fun e H h => finv (Eff.av_lt e 0) (by rw [← hpost, ← h]; exact ⟨rfl, rfl⟩) H
  have finN : ∀ (e : Eff) H, e = exec x s r → e.data = [] → Up 0 post (.ret (.agg (e.cellsD dnil))) H := fun e H h hd => .le (.ret (.agg (leL_dnil e))) (LeH.refl _) (by have := fin e H h; unfold Eff.av Eff.cells at this; rwa [hd] at this)
  have ha : 0 ≤ x.a ∧ x.a < 8 := ⟨hx.a0, by have := hx.a7; omega⟩
  have hb : 0 ≤ x.b ∧ x.b < 8 := ⟨hx.b0, by have := hx.b7; omega⟩
  have ha19 : x.a.toNat + 1 ≤ 19 := by omega
  have hata := r.at hx.a0 hx.a7
  have hatb := r.at hx.b0 hx.b7
  have hfa := ffault0 hf
  obtain ⟨op, xa, xb, imm⟩ := x
  simp only at ho ha hb ha19 hata hatb
  subst ho
  simp only [go_sem,Nat.reduceAdd,Nat.reduceSub,Nat.reduceEqDiff,Nat.reduceLT,Nat.reduceLeDiff,↓reduceIte,Int.reduceToNat,reduceCtorEq,Int.reduceLT,Int.reduceEq,Ins.av,Ins.cells,Sp.av,Rg.av,Rg.cells]
  refine draw [.qu 0 0, .qu 0 0, .qu 0 0, .qu 0 0, .qu 0 0, .qu 0 0] (by kernel_rfl) (by kernel_rfl) ?_
  simp only [go_sem,Nat.reduceAdd,Nat.reduceSub,Nat.reduceEqDiff,Nat.reduceLT,Nat.reduceLeDiff,↓reduceIte,Int.reduceToNat,reduceCtorEq,Int.reduceLT,Int.reduceEq]
  refine y_call (enters_of Tryz.func85 rfl (by decide)) (fun _ => ACalls.pure_use (rilen_c _ hx) rfl rfl) ?_
  simp only [go_sem,Nat.reduceAdd,Nat.reduceSub,Nat.reduceEqDiff,Nat.reduceLT,Nat.reduceLeDiff,↓reduceIte,Int.reduceToNat,reduceCtorEq,Int.reduceLT,Int.reduceEq]
  refine rK_use (enters_of Tryz.func86 rfl (by decide)) (ACalls.pure_use (rfootprint_c _ hx r hr) rfl rfl) ?_
  simp only [go_sem,Nat.reduceAdd,Nat.reduceSub,Nat.reduceEqDiff,Nat.reduceLT,Nat.reduceLeDiff,↓reduceIte,Int.reduceToNat,reduceCtorEq,Int.reduceLT,Int.reduceEq]
  refine rK_use (enters_of Tryz.func87 rfl (by decide)) (ACalls.pure_use (rFault_c s hs (foot ⟨31, xa, xb, imm⟩ r) (foot_len _ r) (foot_size _ r)) rfl rfl) ?_
  simp only [go_sem,Nat.reduceAdd,Nat.reduceSub,Nat.reduceEqDiff,Nat.reduceLT,Nat.reduceLeDiff,↓reduceIte,Int.reduceToNat,reduceCtorEq,Int.reduceLT,Int.reduceEq,Flt.cells,hf]
  refine rK_use (enters_of Tryz.func88 rfl (by decide)) (ACalls.pure_use (isAlu_c 31) rfl rfl) ?_
  have ht : Ins.hasT ⟨31, xa, xb, imm⟩ = false := by simp [Ins.hasT, isBr]
  have hfo : foot ⟨31, xa, xb, imm⟩ r = [⟨r.r7, 8, false⟩] := by simp [foot]
  rw [show isAlu 31 = false from rfl]
  simp only [go_sem,Nat.reduceAdd,Nat.reduceSub,Nat.reduceEqDiff,Nat.reduceLT,Nat.reduceLeDiff,↓reduceIte,Int.reduceToNat,reduceCtorEq,Int.reduceLT,Int.reduceEq,Ins.av,Ins.cells,Sp.av,Rg.av,Rg.cells,Eff.cellsD,ha,ha19,hb,hata,hatb,wr0 ha.1 ha.2,trE,Eff.av,Eff.cells]
  refine rK_use (enters_of Tryz.func90 rfl (by decide)) (ACalls.pure_use (rtarget_c _ hx _) rfl rfl) ?_
  rw [ht]
  simp only [go_sem,Nat.reduceAdd,Nat.reduceSub,Nat.reduceEqDiff,Nat.reduceLT,Nat.reduceLeDiff,↓reduceIte,Int.reduceToNat,reduceCtorEq,Int.reduceLT,Int.reduceEq,Ins.av,Ins.cells,Sp.av,Rg.av,Rg.cells,Eff.cellsD,ha,ha19,hb,hata,hatb,wr0 ha.1 ha.2,trE,Eff.av,Eff.cells,hfo,Acc.row,List.length_map,o0,m1,m2,m7,mp,Rg.set]
  refine draw [.qu 0 0, .qu 0 0, .qu 0 0, .qu 0 0, .qu 0 0, .qu 0 0, .qu 0 0, .qu 0 0, .qu 0 0, .mn 0] (by kernel_rfl) (by kernel_rfl) ?_
  simp only [go_sem,Nat.reduceAdd,Nat.reduceSub,Nat.reduceEqDiff,Nat.reduceLT,Nat.reduceLeDiff,↓reduceIte,Int.reduceToNat,reduceCtorEq,Int.reduceLT,Int.reduceEq,Ins.av,Ins.cells,Sp.av,Rg.av,Rg.cells,Eff.cellsD,ha,ha19,hb,hata,hatb,wr0 ha.1 ha.2,trE,Eff.av,Eff.cells,hfo,Acc.row,List.length_map,o0,m1,m2,m7,mp,Rg.set]
  have h01 : 0 ≤ r.r7 ∧ r.r7 + ((8 : Nat) : Int) ≤ s.byt.length := in_foot hs (hr.reg _ (by simp [Rg.list])) (by decide) (by decide) (hfa ⟨r.r7, 8, false⟩ (by simp [foot]))
  refine y_call (enters_of Tryz.func92 rfl (by decide)) (fun _ => ACalls.pure_use (mem31_c ⟨31, xa, xb, imm⟩ hx rfl s hs r (iw .i64 (r.pc + (Ins.len ⟨31, xa, xb, imm⟩ : Nat))) r.r7 8 (by decide) h01.1 h01.2 false (o0 ⟨31, xa, xb, imm⟩ r) rfl) rfl (by simp [AV.lt, ltL, Eff.av_lt])) ?_
  simp only [go_sem,Nat.reduceAdd,Nat.reduceSub,Nat.reduceEqDiff,Nat.reduceLT,Nat.reduceLeDiff,↓reduceIte,Int.reduceToNat,reduceCtorEq,Int.reduceLT,Int.reduceEq,Eff.av,Eff.cells,Eff.cellsD]
  exact fin (m1 (m7 (o0 ⟨31, xa, xb, imm⟩ r) (iw .i64 (r.r7 + 8))) xa (rdL (s.sub r.r7 8))) _ (by unfold exec; rw [reff_ok hf]; simp [isAlu, tabR, Res.eff, Pr.setA, Pr.toPc, Pr.p1, Pr.start, Pr.set7, o0, m1, m2, m7, mp, trE])
theorem rx34_c (x : Ins) (hx : x.ok) (ho : x.op = 34) (s : Sp) (hs : s.ok) (r : Rg) (hr : r.wf) (hf : (ffault s (foot x r)).kind = 0) :
    ACalls Tryz.prog 47 [x.av, s.av, r.av] [] (fun u H => u = .ret (exec x s r).av ∧ H = []) := by
  refine ACalls.up ?_
  refine ACalls.intro (cs := []) (n := 175) Tryz.func47 rfl rfl rfl (by kernel_rfl) rfl ?_
  generalize hpost : (fun (u : Out) (H : Heap) => u = Out.ret (exec x s r).av ∧ H = []) = post
  have fin : ∀ (e : Eff) H, e = exec x s r → Up 0 post (.ret e.av) H := fun e H h => finv (Eff.av_lt e 0) (by rw [← hpost, ← h]; exact ⟨rfl, rfl⟩) H
  have finN : ∀ (e : Eff) H, e = exec x s r → e.data = [] → Up 0 post (.ret (.agg (e.cellsD dnil))) H := fun e H h hd => .le (.ret (.agg (leL_dnil e))) (LeH.refl _) (by have := fin e H h; unfold Eff.av Eff.cells at this; rwa [hd] at this)
  have ha : 0 ≤ x.a ∧ x.a < 8 := ⟨hx.a0, by have := hx.a7; omega⟩
  have hb : 0 ≤ x.b ∧ x.b < 8 := ⟨hx.b0, by have := hx.b7; omega⟩
  have ha19 : x.a.toNat + 1 ≤ 19 := by omega
  have hata := r.at hx.a0 hx.a7
  have hatb := r.at hx.b0 hx.b7
  have hfa := ffault0 hf
  obtain ⟨op, xa, xb, imm⟩ := x
  simp only at ho ha hb ha19 hata hatb
  subst ho
  simp only [go_sem,Nat.reduceAdd,Nat.reduceSub,Nat.reduceEqDiff,Nat.reduceLT,Nat.reduceLeDiff,↓reduceIte,Int.reduceToNat,reduceCtorEq,Int.reduceLT,Int.reduceEq,Ins.av,Ins.cells,Sp.av,Rg.av,Rg.cells]
  refine draw [.qu 0 0, .qu 0 0, .qu 0 0, .qu 0 0, .qu 0 0, .qu 0 0] (by kernel_rfl) (by kernel_rfl) ?_
  simp only [go_sem,Nat.reduceAdd,Nat.reduceSub,Nat.reduceEqDiff,Nat.reduceLT,Nat.reduceLeDiff,↓reduceIte,Int.reduceToNat,reduceCtorEq,Int.reduceLT,Int.reduceEq]
  refine y_call (enters_of Tryz.func85 rfl (by decide)) (fun _ => ACalls.pure_use (rilen_c _ hx) rfl rfl) ?_
  simp only [go_sem,Nat.reduceAdd,Nat.reduceSub,Nat.reduceEqDiff,Nat.reduceLT,Nat.reduceLeDiff,↓reduceIte,Int.reduceToNat,reduceCtorEq,Int.reduceLT,Int.reduceEq]
  refine rK_use (enters_of Tryz.func86 rfl (by decide)) (ACalls.pure_use (rfootprint_c _ hx r hr) rfl rfl) ?_
  simp only [go_sem,Nat.reduceAdd,Nat.reduceSub,Nat.reduceEqDiff,Nat.reduceLT,Nat.reduceLeDiff,↓reduceIte,Int.reduceToNat,reduceCtorEq,Int.reduceLT,Int.reduceEq]
  refine rK_use (enters_of Tryz.func87 rfl (by decide)) (ACalls.pure_use (rFault_c s hs (foot ⟨34, xa, xb, imm⟩ r) (foot_len _ r) (foot_size _ r)) rfl rfl) ?_
  simp only [go_sem,Nat.reduceAdd,Nat.reduceSub,Nat.reduceEqDiff,Nat.reduceLT,Nat.reduceLeDiff,↓reduceIte,Int.reduceToNat,reduceCtorEq,Int.reduceLT,Int.reduceEq,Flt.cells,hf]
  refine rK_use (enters_of Tryz.func88 rfl (by decide)) (ACalls.pure_use (isAlu_c 34) rfl rfl) ?_
  have ht : Ins.hasT ⟨34, xa, xb, imm⟩ = false := by simp [Ins.hasT, isBr]
  have hfo : foot ⟨34, xa, xb, imm⟩ r = [⟨(iw .i64 (r.get xb + imm)), 8, false⟩, ⟨(iw .i64 (r.get xb + imm)), 8, true⟩] := by simp [foot]
  rw [show isAlu 34 = false from rfl]
  simp only [go_sem,Nat.reduceAdd,Nat.reduceSub,Nat.reduceEqDiff,Nat.reduceLT,Nat.reduceLeDiff,↓reduceIte,Int.reduceToNat,reduceCtorEq,Int.reduceLT,Int.reduceEq,Ins.av,Ins.cells,Sp.av,Rg.av,Rg.cells,Eff.cellsD,ha,ha19,hb,hata,hatb,wr0 ha.1 ha.2,trE,Eff.av,Eff.cells]
  refine rK_use (enters_of Tryz.func90 rfl (by decide)) (ACalls.pure_use (rtarget_c _ hx _) rfl rfl) ?_
  rw [ht]
  simp only [go_sem,Nat.reduceAdd,Nat.reduceSub,Nat.reduceEqDiff,Nat.reduceLT,Nat.reduceLeDiff,↓reduceIte,Int.reduceToNat,reduceCtorEq,Int.reduceLT,Int.reduceEq,Ins.av,Ins.cells,Sp.av,Rg.av,Rg.cells,Eff.cellsD,ha,ha19,hb,hata,hatb,wr0 ha.1 ha.2,trE,Eff.av,Eff.cells,hfo,Acc.row,List.length_map,o0,m1,m2,m7,mp,Rg.set]
  refine draw [.qu 0 0, .qu 0 0, .qu 0 0, .qu 0 0, .qu 0 0, .qu 0 0, .qu 0 0, .qu 0 0, .qu 0 0, .mn 0] (by kernel_rfl) (by kernel_rfl) ?_
  simp only [go_sem,Nat.reduceAdd,Nat.reduceSub,Nat.reduceEqDiff,Nat.reduceLT,Nat.reduceLeDiff,↓reduceIte,Int.reduceToNat,reduceCtorEq,Int.reduceLT,Int.reduceEq,Ins.av,Ins.cells,Sp.av,Rg.av,Rg.cells,Eff.cellsD,ha,ha19,hb,hata,hatb,wr0 ha.1 ha.2,trE,Eff.av,Eff.cells,hfo,Acc.row,List.length_map,o0,m1,m2,m7,mp,Rg.set]
  have h01 : 0 ≤ (iw .i64 (r.get xb + imm)) ∧ (iw .i64 (r.get xb + imm)) + ((8 : Nat) : Int) ≤ s.byt.length := in_foot hs (iwI _) (by decide) (by decide) (hfa ⟨(iw .i64 (r.get xb + imm)), 8, false⟩ (by simp [foot]))
  have e34 : iw .i64 (r.get xb + imm) = r.get xb := by
    have h1 := hr.get xb
    have h2 : imm = 0 := swap_imm hx rfl
    unfold I64 at h1
    rw [h2, Int.add_zero]
    exact iw64 h1.1 h1.2
  refine y_call (enters_of Tryz.func92 rfl (by decide)) (fun _ => ACalls.pure_use (mem34_c ⟨34, xa, xb, imm⟩ hx rfl s hs r (iw .i64 (r.pc + (Ins.len ⟨34, xa, xb, imm⟩ : Nat))) (iw .i64 (r.get xb + imm)) 8 (by decide) h01.1 h01.2 false (o0 ⟨34, xa, xb, imm⟩ r) rfl) rfl (by simp [AV.lt, ltL, Eff.av_lt])) ?_
  simp only [go_sem,Nat.reduceAdd,Nat.reduceSub,Nat.reduceEqDiff,Nat.reduceLT,Nat.reduceLeDiff,↓reduceIte,Int.reduceToNat,reduceCtorEq,Int.reduceLT,Int.reduceEq,Eff.av,Eff.cells,Eff.cellsD]
  exact fin (m1 (m2 (o0 ⟨34, xa, xb, imm⟩ r) (iw .i64 (r.get xb + imm)) (stL 8 (r.get xa))) xa (rdL (s.sub (iw .i64 (r.get xb + imm)) 8))) _ (by unfold exec; rw [reff_ok hf]; simp [isAlu, tabR, Res.eff, Pr.setA, Pr.toPc, Pr.p1, Pr.start, Pr.set7, o0, m1, m2, m7, mp, trE, e34])
theorem rexec_c (x : Ins) (hx : x.ok) (s : Sp) (hs : s.ok) (r : Rg) (hr : r.wf) :
    ACalls Tryz.prog 47 [x.av, s.av, r.av] [] (fun u H => u = .ret (exec x s r).av ∧ H = []) := by
  by_cases hf : (ffault s (foot x r)).kind = 0
  · have ho := ops35 hx.op
    rcases ho with h | h | h | h | h | h | h | h | h | h | h | h | h | h | h | h | h | h | h | h | h | h | h | h | h | h | h | h | h | h | h | h | h | h | h
    · exact rx76_c x hx h s hs r hr hf
    · exact rx1_c x hx h s hs r hr hf
    · exact rx2_c x hx h s hs r hr hf
    · exact rx3_c x hx h s hs r hr hf
    · exact rx4_c x hx h s hs r hr hf
    · exact rx5_c x hx h s hs r hr hf
    · exact rx6_c x hx h s hs r hr hf
    · exact rx7_c x hx h s hs r hr hf
    · exact rx8_c x hx h s hs r hr hf
    · exact rx9_c x hx h s hs r hr hf
    · exact rx10_c x hx h s hs r hr hf
    · exact rx11_c x hx h s hs r hr hf
    · exact rx12_c x hx h s hs r hr hf
    · exact rx13_c x hx h s hs r hr hf
    · exact rx14_c x hx h s hs r hr hf
    · exact rx15_c x hx h s hs r hr hf
    · exact rx16_c x hx h s hs r hr hf
    · exact rx17_c x hx h s hs r hr hf
    · exact rx18_c x hx h s hs r hr hf
    · exact rx19_c x hx h s hs r hr hf
    · exact rx20_c x hx h s hs r hr hf
    · exact rx21_c x hx h s hs r hr hf
    · exact rx22_c x hx h s hs r hr hf
    · exact rx23_c x hx h s hs r hr hf
    · exact rx24_c x hx h s hs r hr hf
    · exact rx25_c x hx h s hs r hr hf
    · exact rx26_c x hx h s hs r hr hf
    · exact rx27_c x hx h s hs r hr hf
    · exact rx28_c x hx h s hs r hr hf
    · exact rx29_c x hx h s hs r hr hf
    · exact rx30_c x hx h s hs r hr hf
    · exact rx31_c x hx h s hs r hr hf
    · exact rx32_c x hx h s hs r hr hf
    · exact rx33_c x hx h s hs r hr hf
    · exact rx34_c x hx h s hs r hr hf
  · refine ACalls.up ?_
    refine ACalls.intro (cs := []) (n := 175) Tryz.func47 rfl rfl rfl (by kernel_rfl) rfl ?_
    generalize hpost : (fun (u : Out) (H : Heap) => u = Out.ret (exec x s r).av ∧ H = []) = post
    have fin : ∀ (e : Eff) H, e = exec x s r → Up 0 post (.ret e.av) H := fun e H h => finv (Eff.av_lt e 0) (by rw [← hpost, ← h]; exact ⟨rfl, rfl⟩) H
    simp only [go_sem,Nat.reduceAdd,Nat.reduceSub,Nat.reduceEqDiff,Nat.reduceLT,Nat.reduceLeDiff,↓reduceIte,Int.reduceToNat,reduceCtorEq,Int.reduceLT,Int.reduceEq,Ins.av,Ins.cells,Sp.av,Rg.av,Rg.cells]
    refine draw [.qu 0 0, .qu 0 0, .qu 0 0, .qu 0 0, .qu 0 0, .qu 0 0] (by kernel_rfl) (by kernel_rfl) ?_
    simp only [go_sem,Nat.reduceAdd,Nat.reduceSub,Nat.reduceEqDiff,Nat.reduceLT,Nat.reduceLeDiff,↓reduceIte,Int.reduceToNat,reduceCtorEq,Int.reduceLT,Int.reduceEq]
    refine y_call (enters_of Tryz.func85 rfl (by decide)) (fun _ => ACalls.pure_use (rilen_c x hx) rfl rfl) ?_
    simp only [go_sem,Nat.reduceAdd,Nat.reduceSub,Nat.reduceEqDiff,Nat.reduceLT,Nat.reduceLeDiff,↓reduceIte,Int.reduceToNat,reduceCtorEq,Int.reduceLT,Int.reduceEq]
    refine rK_use (enters_of Tryz.func86 rfl (by decide)) (ACalls.pure_use (rfootprint_c x hx r hr) rfl rfl) ?_
    simp only [go_sem,Nat.reduceAdd,Nat.reduceSub,Nat.reduceEqDiff,Nat.reduceLT,Nat.reduceLeDiff,↓reduceIte,Int.reduceToNat,reduceCtorEq,Int.reduceLT,Int.reduceEq]
    refine rK_use (enters_of Tryz.func87 rfl (by decide)) (ACalls.pure_use (rFault_c s hs (foot x r) (foot_len x r) (foot_size x r)) rfl rfl) ?_
    simp only [go_sem,Nat.reduceAdd,Nat.reduceSub,Nat.reduceEqDiff,Nat.reduceLT,Nat.reduceLeDiff,↓reduceIte,Int.reduceToNat,reduceCtorEq,Int.reduceLT,Int.reduceEq,Flt.cells,hf]
    refine rK_use (enters_of Tryz.func84 rfl (by decide)) (ACalls.pure_use (trapped_c x r ⟨3, 0, ffault s (foot x r)⟩) rfl (by simp [AV.lt, ltL, Eff.av_lt])) ?_
    simp only [go_sem,Nat.reduceAdd,Nat.reduceSub,Nat.reduceEqDiff,Nat.reduceLT,Nat.reduceLeDiff,↓reduceIte,Int.reduceToNat,reduceCtorEq,Int.reduceLT,Int.reduceEq,Eff.av,Eff.cells,Eff.cellsD,trE]
    exact fin (trE x r ⟨3, 0, ffault s (foot x r)⟩) _ (rexec_f hf).symm
end Go.Proofs.YtfiflailjbmlpaaGreatDoor
set_option maxRecDepth 100000
set_option linter.unusedVariables false
set_option linter.unusedSimpArgs false
namespace Go.Proofs.YtfiflailjbmlpaaGreatDoor
open Go.AM
theorem rstep_c (s : Sp) (hs : s.ok) (r : Rg) (hr : r.wf) :
    ACalls Tryz.prog 44 [s.av, r.av] [] (fun u H => u = .ret (step s r).av ∧ H = []) := by
  refine ACalls.up ?_
  refine ACalls.intro (cs := []) (n := 41) Tryz.func44 rfl rfl rfl (by kernel_rfl) rfl ?_
  generalize hpost : (fun (u : Out) (H : Heap) => u = Out.ret (step s r).av ∧ H = []) = post
  have fin : ∀ (e : Eff) H, e = step s r → Up 0 post (.ret e.av) H := fun e H h => finv (Eff.av_lt e 0) (by rw [← hpost, ← h]; exact ⟨rfl, rfl⟩) H
  simp only [go_sem,Nat.reduceAdd,Nat.reduceSub,Nat.reduceMul,Nat.reduceEqDiff,Nat.reduceLeDiff,Nat.reduceLT,↓reduceIte,Int.reduceToNat,reduceCtorEq,Int.reduceLT,Int.reduceLE,Int.reduceGT,Int.reduceGE,Int.reduceEq,Int.reduceNe,Int.reduceNeg,Int.reduceAdd,Int.reduceSub,Sp.av,Rg.av,Rg.cells]
  refine rK_use (enters_of Tryz.func81 rfl (by decide)) (ACalls.pure_use (rfetched_c s hs r.pc 12 (by decide)) rfl (by simp [AV.lt])) ?_
  have hbl := s.fet_len r.pc 12 0
  have hst : step s r = (if (dec (s.fet r.pc 12 0)).e = 0 then exec (dec (s.fet r.pc 12 0)).x s r
    else if (dec (s.fet r.pc 12 0)).e = 21 then ⟨r, 0, [], ⟨3, 0, s.flt r.pc 4 ((s.fet r.pc 12 0).length + 1) 0⟩, x0⟩
    else ⟨r, 0, [], ⟨4, 0, ⟨0, 0⟩⟩, x0⟩) := rfl
  generalize hb : s.fet r.pc 12 0 = b at *
  simp only [go_sem,Nat.reduceAdd,Nat.reduceSub,Nat.reduceMul,Nat.reduceEqDiff,Nat.reduceLeDiff,Nat.reduceLT,↓reduceIte,Int.reduceToNat,reduceCtorEq,Int.reduceLT,Int.reduceLE,Int.reduceGT,Int.reduceGE,Int.reduceEq,Int.reduceNe,Int.reduceNeg,Int.reduceAdd,Int.reduceSub]
  refine rK_use (enters_of Tryz.func82 rfl (by decide)) (ACalls.pure_use (rdecode_c b (by omega)) rfl (by simp [Dec.rav, AV.lt, ltL, Ins.av, Ins.cells])) ?_
  rcases dec_e b with he | he | he
  · rw [if_pos he] at hst
    have hx := dec_ok he
    generalize hd : dec b = d at *
    obtain ⟨x, n, e⟩ := d
    simp only at he hst hx
    subst he
    simp only [go_sem,Nat.reduceAdd,Nat.reduceSub,Nat.reduceMul,Nat.reduceEqDiff,Nat.reduceLeDiff,Nat.reduceLT,↓reduceIte,Int.reduceToNat,reduceCtorEq,Int.reduceLT,Int.reduceLE,Int.reduceGT,Int.reduceGE,Int.reduceEq,Int.reduceNe,Int.reduceNeg,Int.reduceAdd,Int.reduceSub,Dec.rav,Ins.av,Ins.cells]
    refine rK_use (enters_of Tryz.func47 rfl (by decide)) (ACalls.pure_use (rexec_c x hx s hs r hr) rfl (Eff.av_lt _ _)) ?_
    simp only [go_sem,Nat.reduceAdd,Nat.reduceSub,Nat.reduceMul,Nat.reduceEqDiff,Nat.reduceLeDiff,Nat.reduceLT,↓reduceIte,Int.reduceToNat,reduceCtorEq,Int.reduceLT,Int.reduceLE,Int.reduceGT,Int.reduceGE,Int.reduceEq,Int.reduceNe,Int.reduceNeg,Int.reduceAdd,Int.reduceSub,Eff.av,Eff.cells,Eff.cellsD]
    exact fin (exec x s r) _ hst.symm
  · rw [he, if_neg (by decide), if_neg (by decide)] at hst
    generalize hd : dec b = d at *
    obtain ⟨x, n, e⟩ := d
    simp only at he
    subst he
    simp only [go_sem,Nat.reduceAdd,Nat.reduceSub,Nat.reduceMul,Nat.reduceEqDiff,Nat.reduceLeDiff,Nat.reduceLT,↓reduceIte,Int.reduceToNat,reduceCtorEq,Int.reduceLT,Int.reduceLE,Int.reduceGT,Int.reduceGE,Int.reduceEq,Int.reduceNe,Int.reduceNeg,Int.reduceAdd,Int.reduceSub,Dec.rav,Ins.av,Ins.cells]
    refine rK_use (enters_of Tryz.func84 rfl (by decide)) (ACalls.pure_use (trapped_c x0 r ⟨4, 0, ⟨0, 0⟩⟩) rfl (Eff.av_lt _ _)) ?_
    simp only [go_sem,Nat.reduceAdd,Nat.reduceSub,Nat.reduceMul,Nat.reduceEqDiff,Nat.reduceLeDiff,Nat.reduceLT,↓reduceIte,Int.reduceToNat,reduceCtorEq,Int.reduceLT,Int.reduceLE,Int.reduceGT,Int.reduceGE,Int.reduceEq,Int.reduceNe,Int.reduceNeg,Int.reduceAdd,Int.reduceSub,Eff.av,Eff.cells,Eff.cellsD,trE]
    exact fin (trE x0 r ⟨4, 0, ⟨0, 0⟩⟩) _ hst.symm
  · rw [he, if_neg (by decide), if_pos rfl] at hst
    have e1 : iw .i64 ((b.length : Int) + 1) = ((b.length + 1 : Nat) : Int) := by rw [iw64] <;> omega
    generalize hd : dec b = d at *
    obtain ⟨x, n, e⟩ := d
    simp only at he
    subst he
    simp only [go_sem,Nat.reduceAdd,Nat.reduceSub,Nat.reduceMul,Nat.reduceEqDiff,Nat.reduceLeDiff,Nat.reduceLT,↓reduceIte,Int.reduceToNat,reduceCtorEq,Int.reduceLT,Int.reduceLE,Int.reduceGT,Int.reduceGE,Int.reduceEq,Int.reduceNe,Int.reduceNeg,Int.reduceAdd,Int.reduceSub,Dec.rav,Ins.av,Ins.cells,List.length_map,e1]
    refine rK_use (enters_of Tryz.func83 rfl (by decide)) (ACalls.pure_use (rfault_c s hs r.pc 4 (b.length + 1) (by omega) (by simp)) rfl rfl) ?_
    simp only [go_sem,Nat.reduceAdd,Nat.reduceSub,Nat.reduceMul,Nat.reduceEqDiff,Nat.reduceLeDiff,Nat.reduceLT,↓reduceIte,Int.reduceToNat,reduceCtorEq,Int.reduceLT,Int.reduceLE,Int.reduceGT,Int.reduceGE,Int.reduceEq,Int.reduceNe,Int.reduceNeg,Int.reduceAdd,Int.reduceSub,Flt.cells]
    refine rK_use (enters_of Tryz.func84 rfl (by decide)) (ACalls.pure_use (trapped_c x0 r ⟨3, 0, s.flt r.pc 4 (b.length + 1) 0⟩) rfl (Eff.av_lt _ _)) ?_
    simp only [go_sem,Nat.reduceAdd,Nat.reduceSub,Nat.reduceMul,Nat.reduceEqDiff,Nat.reduceLeDiff,Nat.reduceLT,↓reduceIte,Int.reduceToNat,reduceCtorEq,Int.reduceLT,Int.reduceLE,Int.reduceGT,Int.reduceGE,Int.reduceEq,Int.reduceNe,Int.reduceNeg,Int.reduceAdd,Int.reduceSub,Eff.av,Eff.cells,Eff.cellsD,trE]
    exact fin (trE x0 r ⟨3, 0, s.flt r.pc 4 (b.length + 1) 0⟩) _ hst.symm
end Go.Proofs.YtfiflailjbmlpaaGreatDoor
set_option maxRecDepth 100000
set_option linter.unusedVariables false
set_option linter.unusedSimpArgs false
namespace Go.Proofs.YtfiflailjbmlpaaGreatDoor
open Go.AM
theorem LeL.app : ∀ {xs ys us : List AV}, LeL xs ys → LeL (xs ++ us) (ys ++ us)
  | [], _, us, .nil => by
    induction us with
    | nil => exact .nil
    | cons u us ih => exact .cons (.refl _) ih
  | _ :: _, _, us, .cons h1 h2 => .cons h1 (LeL.app h2)
noncomputable def Pd.stA (p : Pd) (r : Rg) (b : Int) : Eff × Int × Int := if p.chk = 0 then ((p.stepE r b).1, (p.stepE r b).2, 0) else (eff0, 0, 70)
theorem stA_ok {p : Pd} (h : p.ok) (r : Rg) (b : Int) : p.stA r b = ((p.stepE r b).1, (p.stepE r b).2, 0) := if_pos (Pd.chk_ok h)
theorem stA_no {p : Pd} (h : ¬ p.ok) (r : Rg) (b : Int) : p.stA r b = (eff0, 0, 70) := if_neg (by rw [Pd.chk_no h]; decide)
theorem PStepA_c (p : Pd) (r : Rg) (hr : r.wf) (slot : Int) (hs : I64 slot) : ACalls Tryz.prog 11 [p.av, r.av, iv slot] [] (fun o H => o = .ret (.tuple [(p.stA r slot).1.av, iv (p.stA r slot).2.1, iv (p.stA r slot).2.2]) ∧ H = []) := by
  by_cases h : p.ok
  · rw [stA_ok h]
    exact PStep_c p h r hr slot hs
  · rw [stA_no h]
    exact PStep_n p h r slot
theorem rpstep_c (p : Pd) (r : Rg) (hr : r.wf) (slot : Int) (hs : I64 slot) : ACalls Tryz.prog 12 [p.av, r.av, iv slot] [] (fun o H => o = .ret (.agg ((p.stA r slot).1.cells ++ [iv (p.stA r slot).2.1, iv (p.stA r slot).2.2])) ∧ H = []) := by
  refine ACalls.up ?_
  refine ACalls.intro (cs := []) (n := 101) Tryz.func12 rfl rfl rfl (by kernel_rfl) rfl ?_
  generalize hpost : (fun (o : Out) (H : Heap) => o = Out.ret (.agg ((p.stA r slot).1.cells ++ [iv (p.stA r slot).2.1, iv (p.stA r slot).2.2])) ∧ H = []) = post
  simp only [go_sem,Nat.reduceAdd,Nat.reduceSub,Nat.reduceMul,Nat.reduceEqDiff,Nat.reduceLeDiff,Nat.reduceLT,↓reduceIte,Int.reduceToNat,reduceCtorEq,Int.reduceLT,Int.reduceLE,Int.reduceGT,Int.reduceGE,Int.reduceEq,Int.reduceNe,Int.reduceNeg,Int.reduceAdd,Int.reduceSub,Pd.av,Rg.av,Rg.cells]
  refine rK_use (enters_of Tryz.func26 rfl (by decide)) (ACalls.pure_use (rpcheck_c p) rfl rfl) ?_
  by_cases h : p.ok
  rotate_left
  · rw [Pd.chk_no h]
    simp only [go_sem,Nat.reduceAdd,Nat.reduceSub,Nat.reduceMul,Nat.reduceEqDiff,Nat.reduceLeDiff,Nat.reduceLT,↓reduceIte,Int.reduceToNat,reduceCtorEq,Int.reduceLT,Int.reduceLE,Int.reduceGT,Int.reduceGE,Int.reduceEq,Int.reduceNe,Int.reduceNeg,Int.reduceAdd,Int.reduceSub]
    refine .le (o' := .ret (.agg (eff0.cells ++ [iv 0, iv 70]))) (.ret (.agg (LeL.app (us := [iv 0, iv 70]) (leL_dnil eff0)))) (LeH.refl _) (finv (by simp [AV.lt, ltL, Eff.cells, Eff.cellsD]) ?_ _)
    rw [← hpost, stA_no h]
    exact ⟨rfl, rfl⟩
  rw [stA_ok h] at hpost
  have fin : ∀ (e : Eff) n H, (e, n) = p.stepE r slot → Up 0 post (.ret (.agg (e.cells ++ [iv n, iv 0]))) H := fun e n H h => finv (by simp [AV.lt, ltL, Eff.cells, Eff.cellsD]) (by rw [← hpost, ← h]; exact ⟨rfl, rfl⟩) H
  rw [Pd.chk_ok h]
  simp only [go_sem,Nat.reduceAdd,Nat.reduceSub,Nat.reduceMul,Nat.reduceEqDiff,Nat.reduceLeDiff,Nat.reduceLT,↓reduceIte,Int.reduceToNat,reduceCtorEq,Int.reduceLT,Int.reduceLE,Int.reduceGT,Int.reduceGE,Int.reduceEq,Int.reduceNe,Int.reduceNeg,Int.reduceAdd,Int.reduceSub]
  refine rK_use (enters_of Tryz.func43 rfl (by decide)) (ACalls.pure_use (rindex_c p h.sor (by have := h.len; omega) r.pc) rfl rfl) ?_
  cases hc : p.cur r.pc with
  | none =>
    rw [idx_none hc]
    simp only [go_sem,Nat.reduceAdd,Nat.reduceSub,Nat.reduceMul,Nat.reduceEqDiff,Nat.reduceLeDiff,Nat.reduceLT,↓reduceIte,Int.reduceToNat,reduceCtorEq,Int.reduceLT,Int.reduceLE,Int.reduceGT,Int.reduceGE,Int.reduceEq,Int.reduceNe,Int.reduceNeg,Int.reduceAdd,Int.reduceSub]
    refine rK_use (enters_of Tryz.func44 rfl (by decide)) (ACalls.pure_use (rstep_c p.s h.sok r hr) rfl rfl) ?_
    have hfi : (step p.s r, (0 : Int)) = p.stepE r slot := by rw [Pd.stepE, has_cur h.sor, hc, Option.isSome_none, if_neg (by decide)]
    generalize step p.s r = E at *
    simp only [go_sem,Nat.reduceAdd,Nat.reduceSub,Nat.reduceMul,Nat.reduceEqDiff,Nat.reduceLeDiff,Nat.reduceLT,↓reduceIte,Int.reduceToNat,reduceCtorEq,Int.reduceLT,Int.reduceLE,Int.reduceGT,Int.reduceGE,Int.reduceEq,Int.reduceNe,Int.reduceNeg,Int.reduceAdd,Int.reduceSub,Eff.av,Eff.cells,Eff.cellsD]
    exact fin E 0 _ hfi
  | some y =>
    have hmem := (Pd.cur_some h.sor).1 hc
    have hst : (stand p.clean r.pc).e = 0 := by rw [← hmem.2]; exact h.std y hmem.1
    have hxo : (stand p.clean r.pc).x.ok := dec_ok hst
    have hfi : p.stepE r slot = (if (dispE (stand p.clean r.pc).x r.pc slot).2 = 3 then (exec (stand p.clean r.pc).x p.s r, 3)
        else (fixE (stand p.clean r.pc).x (stand p.clean r.pc).n r.pc slot (exec (dispE (stand p.clean r.pc).x r.pc slot).1 p.s (r.at' slot)), (dispE (stand p.clean r.pc).x r.pc slot).2)) := by
      rw [Pd.stepE, has_cur h.sor, hc, Option.isSome_some, if_pos rfl]
    have hdo := disp_ok hxo r.pc slot
    have hda := dispA_ok hxo r.pc slot
    have hrd := rDisplace_c (stand p.clean r.pc).x r.pc slot
    rw [hda] at hrd
    rw [idx_some hc]
    have g : ¬ (lb r.pc p.l : Int) < 0 := by omega
    simp only [go_sem,Nat.reduceAdd,Nat.reduceSub,Nat.reduceMul,Nat.reduceEqDiff,Nat.reduceLeDiff,Nat.reduceLT,↓reduceIte,Int.reduceToNat,reduceCtorEq,Int.reduceLT,Int.reduceLE,Int.reduceGT,Int.reduceGE,Int.reduceEq,Int.reduceNe,Int.reduceNeg,Int.reduceAdd,Int.reduceSub,eq_false g]
    refine draw [.rd 0 1, .qu 0 1, .qu 0 1, .rd 0 1, .qu 0 1, .mn 0, .mn 1] (by kernel_rfl) (by kernel_rfl) ?_
    simp only [go_sem,Nat.reduceAdd,Nat.reduceSub,Nat.reduceMul,Nat.reduceEqDiff,Nat.reduceLeDiff,Nat.reduceLT,↓reduceIte,Int.reduceToNat,reduceCtorEq,Int.reduceLT,Int.reduceLE,Int.reduceGT,Int.reduceGE,Int.reduceEq,Int.reduceNe,Int.reduceNeg,Int.reduceAdd,Int.reduceSub]
    refine y_call (enters_of Tryz.func46 rfl (by decide)) (fun _ => ACalls.pure_use (cleaned_c p h.fit h.bounds) rfl rfl) ?_
    simp only [go_sem,Nat.reduceAdd,Nat.reduceSub,Nat.reduceMul,Nat.reduceEqDiff,Nat.reduceLeDiff,Nat.reduceLT,↓reduceIte,Int.reduceToNat,reduceCtorEq,Int.reduceLT,Int.reduceLE,Int.reduceGT,Int.reduceGE,Int.reduceEq,Int.reduceNe,Int.reduceNeg,Int.reduceAdd,Int.reduceSub,Sp.av]
    refine y_call (enters_of Tryz.func45 rfl (by decide)) (fun _ => ACalls.pure_use (stands_c p.clean h.cok r.pc) rfl (by simp [Dec.rav, AV.lt, ltL])) ?_
    generalize stand p.clean r.pc = D at *
    simp only [go_sem,Nat.reduceAdd,Nat.reduceSub,Nat.reduceMul,Nat.reduceEqDiff,Nat.reduceLeDiff,Nat.reduceLT,↓reduceIte,Int.reduceToNat,reduceCtorEq,Int.reduceLT,Int.reduceLE,Int.reduceGT,Int.reduceGE,Int.reduceEq,Int.reduceNe,Int.reduceNeg,Int.reduceAdd,Int.reduceSub,Dec.rav,Ins.cells]
    refine rK_use (enters_of Tryz.func17 rfl (by decide)) (ACalls.pure_use hrd rfl rfl) ?_
    generalize dispE D.x r.pc slot = E at *
    simp only [go_sem,Nat.reduceAdd,Nat.reduceSub,Nat.reduceMul,Nat.reduceEqDiff,Nat.reduceLeDiff,Nat.reduceLT,↓reduceIte,Int.reduceToNat,reduceCtorEq,Int.reduceLT,Int.reduceLE,Int.reduceGT,Int.reduceGE,Int.reduceEq,Int.reduceNe,Int.reduceNeg,Int.reduceAdd,Int.reduceSub,Ins.av,Ins.cells]
    rcases Decidable.em (E.2 = 3) with h3 | h3
    · simp only [go_sem,Nat.reduceAdd,Nat.reduceSub,Nat.reduceMul,Nat.reduceEqDiff,Nat.reduceLeDiff,Nat.reduceLT,↓reduceIte,Int.reduceToNat,reduceCtorEq,Int.reduceLT,Int.reduceLE,Int.reduceGT,Int.reduceGE,Int.reduceEq,Int.reduceNe,Int.reduceNeg,Int.reduceAdd,Int.reduceSub,eq_true h3]
      refine draw [.qu 0 0, .qu 0 0, .qu 0 0, .qu 0 0, .qu 0 0, .mn 0, .qu 0 1, .rd 0 1, .qu 1 1, .mn 1] (by kernel_rfl) (by kernel_rfl) ?_
      simp only [go_sem,Nat.reduceAdd,Nat.reduceSub,Nat.reduceMul,Nat.reduceEqDiff,Nat.reduceLeDiff,Nat.reduceLT,↓reduceIte,Int.reduceToNat,reduceCtorEq,Int.reduceLT,Int.reduceLE,Int.reduceGT,Int.reduceGE,Int.reduceEq,Int.reduceNe,Int.reduceNeg,Int.reduceAdd,Int.reduceSub]
      refine dM_call (enters_of Tryz.func47 rfl (by decide)) (ACalls.pure_use (rexec_c D.x hxo p.s h.sok r hr) rfl rfl) ?_
      simp only [go_sem,Nat.reduceAdd,Nat.reduceSub,Nat.reduceMul,Nat.reduceEqDiff,Nat.reduceLeDiff,Nat.reduceLT,↓reduceIte,Int.reduceToNat,reduceCtorEq,Int.reduceLT,Int.reduceLE,Int.reduceGT,Int.reduceGE,Int.reduceEq,Int.reduceNe,Int.reduceNeg,Int.reduceAdd,Int.reduceSub,Eff.av,Eff.cells,Eff.cellsD]
      exact fin (exec D.x p.s r) E.2 _ (by rw [hfi, if_pos h3, h3])
    · rw [if_neg h3] at hfi
      simp only [go_sem,Nat.reduceAdd,Nat.reduceSub,Nat.reduceMul,Nat.reduceEqDiff,Nat.reduceLeDiff,Nat.reduceLT,↓reduceIte,Int.reduceToNat,reduceCtorEq,Int.reduceLT,Int.reduceLE,Int.reduceGT,Int.reduceGE,Int.reduceEq,Int.reduceNe,Int.reduceNeg,Int.reduceAdd,Int.reduceSub,eq_false h3]
      refine rK_use (enters_of Tryz.func47 rfl (by decide)) (ACalls.pure_use (rexec_c E.1 hdo p.s h.sok (r.at' slot) ⟨hr.reg, hs⟩) rfl rfl) ?_
      generalize exec E.1 p.s (r.at' slot) = F at *
      simp only [go_sem,Nat.reduceAdd,Nat.reduceSub,Nat.reduceMul,Nat.reduceEqDiff,Nat.reduceLeDiff,Nat.reduceLT,↓reduceIte,Int.reduceToNat,reduceCtorEq,Int.reduceLT,Int.reduceLE,Int.reduceGT,Int.reduceGE,Int.reduceEq,Int.reduceNe,Int.reduceNeg,Int.reduceAdd,Int.reduceSub,Eff.av,Eff.cells,Eff.cellsD]
      refine condD_dec (fun hk => ?_) (fun hk => ?_)
      · simp only [go_sem,Nat.reduceAdd,Nat.reduceSub,Nat.reduceMul,Nat.reduceEqDiff,Nat.reduceLeDiff,Nat.reduceLT,↓reduceIte,Int.reduceToNat,reduceCtorEq,Int.reduceLT,Int.reduceLE,Int.reduceGT,Int.reduceGE,Int.reduceEq,Int.reduceNe,Int.reduceNeg,Int.reduceAdd,Int.reduceSub]
        have e : fixE D.x D.n r.pc slot F = ⟨F.rg.at' r.pc, F.pos, F.data, F.trap, D.x⟩ := by rw [fixE, if_pos hk]
        rw [e] at hfi
        exact fin ⟨F.rg.at' r.pc, F.pos, F.data, F.trap, D.x⟩ E.2 _ hfi.symm
      · have same : ¬ ((D.x.op ≠ 26 ∧ D.x.op ≠ 29) ∧ F.rg.pc = iw .i64 (slot + D.n)) → (⟨F.rg, F.pos, F.data, F.trap, D.x⟩, E.2) = p.stepE r slot := fun hn => by
          rw [hfi, fixE, if_neg hk, if_neg hn]
          rfl
        rcases Decidable.em (D.x.op = 26) with q1 | q1
        · simp only [go_sem,Nat.reduceAdd,Nat.reduceSub,Nat.reduceMul,Nat.reduceEqDiff,Nat.reduceLeDiff,Nat.reduceLT,↓reduceIte,Int.reduceToNat,reduceCtorEq,Int.reduceLT,Int.reduceLE,Int.reduceGT,Int.reduceGE,Int.reduceEq,Int.reduceNe,Int.reduceNeg,Int.reduceAdd,Int.reduceSub,eq_true q1]
          exact fin ⟨F.rg, F.pos, F.data, F.trap, D.x⟩ E.2 _ (same fun h => h.1.1 q1)
        rcases Decidable.em (D.x.op = 29) with q2 | q2
        · simp only [go_sem,Nat.reduceAdd,Nat.reduceSub,Nat.reduceMul,Nat.reduceEqDiff,Nat.reduceLeDiff,Nat.reduceLT,↓reduceIte,Int.reduceToNat,reduceCtorEq,Int.reduceLT,Int.reduceLE,Int.reduceGT,Int.reduceGE,Int.reduceEq,Int.reduceNe,Int.reduceNeg,Int.reduceAdd,Int.reduceSub,eq_false q1,eq_true q2]
          exact fin ⟨F.rg, F.pos, F.data, F.trap, D.x⟩ E.2 _ (same fun h => h.1.2 q2)
        rcases Decidable.em (F.rg.pc = iw .i64 (slot + D.n)) with q3 | q3
        · simp only [go_sem,Nat.reduceAdd,Nat.reduceSub,Nat.reduceMul,Nat.reduceEqDiff,Nat.reduceLeDiff,Nat.reduceLT,↓reduceIte,Int.reduceToNat,reduceCtorEq,Int.reduceLT,Int.reduceLE,Int.reduceGT,Int.reduceGE,Int.reduceEq,Int.reduceNe,Int.reduceNeg,Int.reduceAdd,Int.reduceSub,eq_false q1,eq_false q2,eq_true q3]
          exact fin ⟨F.rg.at' (iw .i64 (r.pc + D.n)), F.pos, F.data, F.trap, D.x⟩ E.2 _ (by rw [hfi, fixE, if_neg hk, if_pos ⟨⟨q1, q2⟩, q3⟩])
        · simp only [go_sem,Nat.reduceAdd,Nat.reduceSub,Nat.reduceMul,Nat.reduceEqDiff,Nat.reduceLeDiff,Nat.reduceLT,↓reduceIte,Int.reduceToNat,reduceCtorEq,Int.reduceLT,Int.reduceLE,Int.reduceGT,Int.reduceGE,Int.reduceEq,Int.reduceNe,Int.reduceNeg,Int.reduceAdd,Int.reduceSub,eq_false q1,eq_false q2,eq_false q3]
          exact fin ⟨F.rg, F.pos, F.data, F.trap, D.x⟩ E.2 _ (same fun h => q3 h.2)
end Go.Proofs.YtfiflailjbmlpaaGreatDoor
set_option maxRecDepth 100000
set_option linter.unusedVariables false
set_option linter.unusedSimpArgs false
namespace Go.Proofs.YtfiflailjbmlpaaGreatDoor
open Go.AM
theorem PatchSteps_c (p : Pd) (r : Rg) (hr : r.wf) (slot : Int) (hs : I64 slot) : ACalls Tryz.prog 3 [p.av, r.av, iv slot] [] (fun o H => o = .ret (.bool true) ∧ H = []) := by
  refine ACalls.up ?_
  refine ACalls.intro (cs := []) (n := 44) Tryz.func3 rfl rfl rfl (by kernel_rfl) rfl ?_
  generalize hpost : (fun (o : Out) (H : Heap) => o = Out.ret (.bool true) ∧ H = []) = post
  have fin : ∀ H, Up 0 post (.ret (.bool true)) H := fun H => finv rfl (by rw [← hpost]; exact ⟨rfl, rfl⟩) H
  simp only [go_sem,Nat.reduceAdd,Nat.reduceSub,Nat.reduceMul,Nat.reduceEqDiff,Nat.reduceLeDiff,Nat.reduceLT,↓reduceIte,Int.reduceToNat,reduceCtorEq,Int.reduceLT,Int.reduceLE,Int.reduceGT,Int.reduceGE,Int.reduceEq,Int.reduceNe,Int.reduceNeg,Int.reduceAdd,Int.reduceSub,Pd.av,Rg.av,Rg.cells]
  refine rK_use (enters_of Tryz.func10 rfl (by decide)) (ACalls.pure_use (sane_c) rfl rfl) ?_
  simp only [go_sem,Nat.reduceAdd,Nat.reduceSub,Nat.reduceMul,Nat.reduceEqDiff,Nat.reduceLeDiff,Nat.reduceLT,↓reduceIte,Int.reduceToNat,reduceCtorEq,Int.reduceLT,Int.reduceLE,Int.reduceGT,Int.reduceGE,Int.reduceEq,Int.reduceNe,Int.reduceNeg,Int.reduceAdd,Int.reduceSub]
  refine rK_use (enters_of Tryz.func11 rfl (by decide)) (ACalls.pure_use (PStepA_c p r hr slot hs) rfl rfl) ?_
  have hrp := rpstep_c p r hr slot hs
  generalize p.stA r slot = E at *
  simp only [go_sem,Nat.reduceAdd,Nat.reduceSub,Nat.reduceMul,Nat.reduceEqDiff,Nat.reduceLeDiff,Nat.reduceLT,↓reduceIte,Int.reduceToNat,reduceCtorEq,Int.reduceLT,Int.reduceLE,Int.reduceGT,Int.reduceGE,Int.reduceEq,Int.reduceNe,Int.reduceNeg,Int.reduceAdd,Int.reduceSub,Eff.av,Eff.cells,Eff.cellsD]
  refine rK_use (enters_of Tryz.func12 rfl (by decide)) (ACalls.pure_use hrp rfl rfl) ?_
  simp only [go_sem,Nat.reduceAdd,Nat.reduceSub,Nat.reduceMul,Nat.reduceEqDiff,Nat.reduceLeDiff,Nat.reduceLT,↓reduceIte,Int.reduceToNat,reduceCtorEq,Int.reduceLT,Int.reduceLE,Int.reduceGT,Int.reduceGE,Int.reduceEq,Int.reduceNe,Int.reduceNeg,Int.reduceAdd,Int.reduceSub,Eff.av,Eff.cells,Eff.cellsD]
  refine rK_use (enters_of Tryz.func13 rfl (by decide)) (ACalls.pure_use (rSame_c E.1 E.1) rfl rfl) ?_
  rw [sameE_self]
  simp only [go_sem,Nat.reduceAdd,Nat.reduceSub,Nat.reduceMul,Nat.reduceEqDiff,Nat.reduceLeDiff,Nat.reduceLT,↓reduceIte,Int.reduceToNat,reduceCtorEq,Int.reduceLT,Int.reduceLE,Int.reduceGT,Int.reduceGE,Int.reduceEq,Int.reduceNe,Int.reduceNeg,Int.reduceAdd,Int.reduceSub]
  exact fin _
end Go.Proofs.YtfiflailjbmlpaaGreatDoor
set_option maxRecDepth 100000
set_option linter.unusedVariables false
set_option linter.unusedSimpArgs false
namespace Go.Proofs.YtfiflailjbmlpaaGreatDoor
open Go.AM
open Go.ChangeShapes Go.WideShapes Go.ChangeAt Go.RowKit
def kdOf : DataW Unit → List UInt8 × Int
  | .agg [.lit (.string s), .lit (.int _ n)] => (s, n)
  | _ => ([], 0)
def kd : List (List UInt8 × Int) := match (Rows.laid_tapline_insn_kinds : DataW Unit) with
  | .agg ds => ds.map kdOf
  | _ => []
def kdD (x : List UInt8 × Int) : DataW Unit := .agg [.lit (.string x.1), .lit (.int .i64 x.2)]
def kdV (x : List UInt8 × Int) : List Value := [.string ⟨x.1.toArray⟩, .int .i64 x.2]
theorem kd_laid : (Rows.laid_tapline_insn_kinds : DataW Unit) = .agg (kd.map kdD) := rfl
theorem kd_gtab : gtab = [(0, kd.flatMap kdV)] := rfl
theorem kd_len : kd.length = 35 := by kernel_rfl
theorem chunk {α : Type} : ∀ (L : List (List α)) (cs : List α) (m : Nat), (∀ l ∈ L, l.length = m) → cs.length = L.length * m → (∀ (i : Nat) l, L[i]? = some l → (cs.drop (i * m)).take m = l) → cs = L.flatten
  | [], cs, m, _, h, _ => by simpa using h
  | l :: L, cs, m, hl, hn, h => by
    have h0 := h 0 l rfl
    simp at h0
    have ih := chunk L (cs.drop m) m (fun x hx => hl x (List.mem_cons_of_mem _ hx)) (by simp [hn, Nat.add_mul]) (fun i x hx => by
      have := h (i + 1) x (by simpa using hx)
      rw [List.drop_drop, show m + i * m = (i + 1) * m by rw [Nat.add_mul]; omega]
      exact this)
    rw [List.flatten_cons, ← ih, ← h0, List.take_append_drop]
theorem two {α : Type} : ∀ {l : List α}, l.length = 2 → ∃ a b, l = [a, b]
  | [a, b], _ => ⟨a, b, rfl⟩
theorem glok {W : World} (h : laidMetH Tryz.prog [("tapline/insn.kinds", Rows.laid_tapline_insn_kinds)] W) : GlOk (snapAll W) := by
  rw [MakeChecks.laidMetH_plain _ _ _ (by kernel_rfl)] at h
  obtain ⟨ps, ⟨g, t, cs, fuel, p, q, hg, ht, hv, hd, _, _⟩, _, _⟩ := h
  obtain rfl := Option.some.inj ((show Tryz.prog.globalNamed "tapline/insn.kinds" = some 0 by kernel_rfl).symm.trans hg)
  obtain rfl := Option.some.inj ((show (Tryz.prog.globals[0]?).map (·.type) = some 174 by kernel_rfl).symm.trans ht)
  obtain ⟨xs, m, _, ex, hn, hl, hel⟩ := DataW.trod_array Tryz.underlying174 hd
  have c2 : Tryz.prog.cellsOf 156 = 2 := by kernel_rfl
  have c70 : Tryz.prog.cellsOf 174 = 70 := by kernel_rfl
  have e3 : xs.map (·.1) = kd.map kdD := by
    have := (Prod.mk.inj ex).1
    rw [kd_laid] at this
    exact (DataW.agg.inj this).symm
  have hkl := kd_len
  have hcs : cs.toList = (kd.map kdV).flatten := by
    refine chunk _ _ 2 (fun l hl => by obtain ⟨x, _, rfl⟩ := List.mem_map.1 hl; rfl) (by rw [hn, c70, List.length_map, hkl]) fun i l hi => ?_
    rw [List.getElem?_map, Option.map_eq_some_iff] at hi
    obtain ⟨x, hx, rfl⟩ := hi
    have hil := (List.getElem?_eq_some_iff.1 hx).1
    have hE := hel i (by omega)
    rw [c2, List.getElem?_eq_getElem (by omega)] at hE
    have hx1 : xs[i].1 = kdD x := by
      have := congrArg (fun l => l[i]?) e3
      simp only [List.getElem?_map, hx, List.getElem?_eq_getElem (show i < xs.length by omega), Option.map_some, Option.some.injEq] at this
      exact this
    obtain ⟨ys, n, _, ey, hyl, hys, hf⟩ := DataW.trod_struct Tryz.underlying156 hE
    have f0 := hf 0 _ rfl
    have f1 := hf 1 _ rfl
    have h2 : ys.length = 2 := hys
    rw [List.getElem?_eq_getElem (by omega)] at f0 f1
    obtain ⟨s, s1, s2, _⟩ := DataW.trod_string Tryz.underlying9 f0
    obtain ⟨z, z1, z2, _⟩ := DataW.trod_int Tryz.underlying3 f1
    have c9 : Tryz.prog.cellsOf 9 = 1 := by kernel_rfl
    have c3 : Tryz.prog.cellsOf 3 = 1 := by kernel_rfl
    have e4 : ys.map (·.1) = [.lit (.string x.1), .lit (.int .i64 x.2)] := by
      rw [ey] at hx1
      exact DataW.agg.inj hx1
    obtain ⟨y0, y1, rfl⟩ := two h2
    simp only [List.map_cons, List.map_nil, List.cons.injEq, and_true, List.getElem_cons_zero, List.getElem_cons_succ] at e4
    have s2' : y0 = _ := s2
    have z2' : y1 = _ := z2
    rw [s2', z2'] at e4
    simp only [DataW.lit.injEq, Lit.string.injEq, Lit.int.injEq, true_and] at e4
    obtain ⟨es, ez⟩ := e4
    have hs : s = ⟨x.1.toArray⟩ := by
      rw [← es]
    rw [c2] at hyl
    generalize (cs.toList.drop (i * 2)).take 2 = B at *
    obtain ⟨u, v, rfl⟩ := two hyl
    have s1' : List.take (Tryz.prog.cellsOf 9) [u, v] = [.string s] := s1
    have z1' : List.take (Tryz.prog.cellsOf 3) [v] = [.int .i64 z] := z1
    rw [c9] at s1'
    rw [c3] at z1'
    simp only [List.take_succ_cons, List.take_zero, List.cons.injEq, and_true] at s1' z1'
    rw [s1', z1', hs, ez]
    rfl
  have hfl : kd.flatMap kdV = cs.toList := by rw [hcs, List.flatMap]
  intro y hy k v hk
  rw [kd_gtab, List.mem_singleton] at hy
  subst hy
  have hk' : cs.toList[k]? = some v := by rw [← hfl]; exact hk
  have hc := World.var?_cell hg hv k
  rw [show cs[k]? = some v by simpa using hk'] at hc
  unfold scell snapAll
  unfold World.cell? at hc
  split at hc
  · rename_i e
    rw [e]
    exact hc
  · cases hc
theorem wf_i64 {n : Int} (h : (Lit.int .i64 n).wf = true) : I64 n := by
  simp only [Lit.wf, Bool.and_eq_true, decide_eq_true_eq] at h
  have h1 : IntKind.i64.min = -9223372036854775808 := by decide
  have h2 : IntKind.i64.max = 9223372036854775807 := by decide
  rw [h1, h2] at h
  exact h
theorem wf_u8 {n : Int} (h : (Lit.int .u8 n).wf = true) : ∃ b : UInt8, n = (b.toNat : Int) := by
  simp only [Lit.wf, Bool.and_eq_true, decide_eq_true_eq] at h
  have h1 : IntKind.u8.min = 0 := by decide
  have h2 : IntKind.u8.max = 255 := by decide
  rw [h1, h2] at h
  refine ⟨UInt8.ofNat n.toNat, ?_⟩
  rw [UInt8.toNat_ofNat']
  omega
theorem sh_int {xs : List AV} (h : Sh Tryz.prog 3 xs) : ∃ n, wkL xs = r1 n ∧ I64 n := by
  obtain ⟨n, rfl, hw⟩ := h.int_inv Tryz.underlying3
  exact ⟨n, rfl, wf_i64 hw⟩
theorem sh_i64 {xs : List AV} (h : Sh Tryz.prog 2 xs) : ∃ n, wkL xs = r1 n ∧ I64 n := by
  obtain ⟨n, rfl, hw⟩ := h.int_inv Tryz.underlying2
  exact ⟨n, rfl, wf_i64 hw⟩
theorem sh_u8 {xs : List AV} (h : Sh Tryz.prog 5 xs) : ∃ b : UInt8, wkL xs = rb b := by
  obtain ⟨n, rfl, hw⟩ := h.int_inv Tryz.underlying5
  obtain ⟨b, rfl⟩ := wf_u8 hw
  exact ⟨b, rfl⟩
theorem cells_int : Tryz.prog.cellsOf 3 = 1 := by kernel_rfl
theorem cells_u8 : Tryz.prog.cellsOf 5 = 1 := by kernel_rfl
theorem wkL_app : ∀ (a b : List AV), wkL (a ++ b) = wkL a ++ wkL b
  | [], b => rfl
  | x :: a, b => by simp [wkL, wkL_app a b]
theorem sh_space {xs : List AV} (h : Sh Tryz.prog 25 xs) : ∃ s : Sp, wkL xs = [.view false 1 (s.perm.map r1), .view false 1 (s.byt.map rb)] := by
  obtain ⟨xss, rfl, hn, hp⟩ := h.struct_inv Tryz.underlying25
  obtain ⟨a, b, rfl⟩ := two hn
  obtain ⟨f1, r1', h1, _, hr1⟩ := (hp 0 _ a rfl rfl).slice_inv Tryz.underlying22
  obtain ⟨f2, r2', h2, _, hr2⟩ := (hp 1 _ b rfl rfl).slice_inv Tryz.underlying23
  obtain ⟨l1, hl1⟩ := Sh.rows (f := r1) (fun row hrow => (sh_int hrow).imp fun n hn => hn.1) hr1
  obtain ⟨l2, hl2⟩ := Sh.rows (f := rb) (fun row hrow => sh_u8 hrow) hr2
  subst h1 h2
  refine ⟨⟨l1, l2⟩, ?_⟩
  simp [AV.wk, wkL_app, wkL, hl1, hl2, cells_int, cells_u8]
theorem flat3 {xss : List (List AV)} (h : xss.length = 3) : ∃ a b c, xss = [a, b, c] := by
  match xss, h with
  | [a, b, c], _ => exact ⟨a, b, c, rfl⟩
theorem flat8 {xss : List (List AV)} (h : xss.length = 8) : ∃ a b c d e f g i, xss = [a, b, c, d, e, f, g, i] := by
  match xss, h with
  | [a, b, c, d, e, f, g, i], _ => exact ⟨a, b, c, d, e, f, g, i, rfl⟩
theorem sh_regs {xs : List AV} (h : Sh Tryz.prog 31 xs) : ∃ r : Rg, wkL xs = r.cells ∧ r.wf := by
  obtain ⟨xss, rfl, hn, hp⟩ := h.struct_inv Tryz.underlying31
  obtain ⟨a, b, rfl⟩ := two hn
  obtain ⟨yss, rfl, hm, hq⟩ := (hp 0 _ a rfl rfl).array_inv Tryz.underlying29
  obtain ⟨a0, a1, a2, a3, a4, a5, a6, a7, rfl⟩ := flat8 hm
  obtain ⟨n0, h0, w0⟩ := sh_i64 (hq a0 (by simp))
  obtain ⟨n1, h1, w1⟩ := sh_i64 (hq a1 (by simp))
  obtain ⟨n2, h2, w2⟩ := sh_i64 (hq a2 (by simp))
  obtain ⟨n3, h3, w3⟩ := sh_i64 (hq a3 (by simp))
  obtain ⟨n4, h4, w4⟩ := sh_i64 (hq a4 (by simp))
  obtain ⟨n5, h5, w5⟩ := sh_i64 (hq a5 (by simp))
  obtain ⟨n6, h6, w6⟩ := sh_i64 (hq a6 (by simp))
  obtain ⟨n7, h7, w7⟩ := sh_i64 (hq a7 (by simp))
  obtain ⟨n8, h8, w8⟩ := sh_i64 (hp 1 _ b rfl rfl)
  refine ⟨⟨n0, n1, n2, n3, n4, n5, n6, n7, n8⟩, by simp [wkL_app, h0, h1, h2, h3, h4, h5, h6, h7, h8, Rg.cells], ⟨?_, w8⟩⟩
  intro x hx
  simp only [Rg.list, List.mem_cons, List.not_mem_nil, or_false] at hx
  rcases hx with rfl | rfl | rfl | rfl | rfl | rfl | rfl | rfl <;> assumption
theorem read_agg {H : Type} {enc : TypeId × Value → H} {P : Program} {w : World} {t : TypeId} {fs : Array Field} {v : Value} {d : DataW H} {p : List MemPlace} {base : Nat} (m : Nat) (ht : P.underlying t = some (.struct fs)) (hp : plainB P m t = true)
    (hv : Value.okWide P w .any base t v) (h : DataW.Trod enc P w 0 (fun _ => true) true t v d p) : ∃ xs, VR (snapAll w) noEnv (.agg (wkL xs)) v ∧ Sh P t xs := by
  unfold Value.okWide at hv
  rw [ht] at hv
  obtain ⟨cs, rfl, _⟩ := hv
  obtain ⟨n, hn⟩ := h
  obtain ⟨xs, h1, h2⟩ := read_trod m t hp n _ _ hn
  have hlen : xs.length = cs.size := by rw [h1.1]; simp [Value.cells]
  refine ⟨xs, ?_, h2⟩
  have := VR.wk (VR.agg (sn := snapAll w) noEnv xs cs hlen.symm fun k x y hx hy => (h1.2 k x y hx (by simpa [Value.cells] using hy)).1)
  simpa [AV.wk] using this
section
variable {H : Type} {enc : TypeId × Value → H} {w : World} {v : Value} {d : DataW H} {p : List MemPlace} {base : Nat}
theorem read_regs (hv : Value.okWide Tryz.prog w .any base 31 v) (h : DataW.Trod enc Tryz.prog w 0 (fun _ => true) true 31 v d p) : ∃ r : Rg, VR (snapAll w) noEnv r.av v ∧ r.wf := by
  obtain ⟨xs, h1, h2⟩ := read_agg 5 Tryz.underlying31 (by kernel_rfl) hv h
  obtain ⟨x, hx, hw⟩ := sh_regs h2
  exact ⟨x, by rw [hx] at h1; exact h1, hw⟩
theorem read_i64 (hv : Value.okWide Tryz.prog w .any base 2 v) (h : DataW.Trod enc Tryz.prog w 0 (fun _ => true) true 2 v d p) : ∃ n : Int, VR (snapAll w) noEnv (iv n) v ∧ I64 n := by
  obtain ⟨n, rfl, _, _, hw⟩ := open_int Tryz.underlying2 hv h
  exact ⟨n, .int _ _ _, wf_i64 hw⟩
end
theorem lout : laidOutB Tryz.prog = true := by kernel_rfl
theorem own : ownKnob Tryz.prog.godebug = none := by kernel_rfl
theorem rd_ok {l : List TypeId} (h : (l.all fun t => Tryz.prog.readableRec t && decide (t < Tryz.prog.types.size)) = true) : ∀ t ∈ l, Tryz.prog.readableRec t = true ∧ t < Tryz.prog.types.size := fun t ht => by
  have := List.all_eq_true.1 h t ht
  simpa using this
end Go.Proofs.YtfiflailjbmlpaaGreatDoor
set_option maxRecDepth 100000
set_option linter.unusedVariables false
set_option linter.unusedSimpArgs false
namespace Go.Proofs.YtfiflailjbmlpaaGreatDoor
open Go.AM
open Go.ChangeShapes Go.WideShapes Go.ChangeAt Go.RowKit
theorem cells_patch : Tryz.prog.cellsOf 92 = 3 := by kernel_rfl
theorem sh_patch {xs : List AV} (h : Sh Tryz.prog 92 xs) : ∃ x : Pt, wkL xs = rp x := by
  obtain ⟨xss, rfl, hn, hp⟩ := h.struct_inv Tryz.underlying92
  obtain ⟨a, b, c, rfl⟩ := flat3 hn
  obtain ⟨n0, h0, _⟩ := sh_i64 (hp 0 _ a rfl rfl)
  obtain ⟨n1, h1⟩ := sh_u8 (hp 1 _ b rfl rfl)
  obtain ⟨n2, h2, _⟩ := sh_int (hp 2 _ c rfl rfl)
  exact ⟨⟨n0, n1, n2⟩, by simp [wkL_app, h0, h1, h2]⟩
theorem sh_patched {xs : List AV} (h : Sh Tryz.prog 28 xs) : ∃ p : Pd, wkL xs = [.view false 1 (p.s.perm.map r1), .view false 1 (p.s.byt.map rb), .view false 3 (p.l.map rp)] := by
  obtain ⟨xss, rfl, hn, hp⟩ := h.struct_inv Tryz.underlying28
  obtain ⟨a, b, rfl⟩ := two hn
  obtain ⟨s, h0⟩ := sh_space (hp 0 _ a rfl rfl)
  obtain ⟨f1, r1', h1, _, hr1⟩ := (hp 1 _ b rfl rfl).slice_inv Tryz.underlying26
  obtain ⟨l1, hl1⟩ := Sh.rows (f := rp) (fun row hrow => sh_patch hrow) hr1
  subst h1
  refine ⟨⟨s, l1⟩, ?_⟩
  simp [AV.wk, wkL_app, wkL, h0, hl1, cells_patch]
section
variable {H : Type} {enc : TypeId × Value → H} {w : World} {v : Value} {d : DataW H} {p : List MemPlace} {base : Nat}
theorem read_patched (hv : Value.okWide Tryz.prog w .any base 28 v) (h : DataW.Trod enc Tryz.prog w 0 (fun _ => true) true 28 v d p) : ∃ p : Pd, VR (snapAll w) noEnv p.av v := by
  obtain ⟨xs, h1, h2⟩ := read_agg 5 Tryz.underlying28 (by kernel_rfl) hv h
  obtain ⟨x, hx⟩ := sh_patched h2
  exact ⟨x, by rw [hx] at h1; exact h1⟩
end
end Go.Proofs.YtfiflailjbmlpaaGreatDoor
set_option maxRecDepth 100000
set_option linter.unusedVariables false
set_option linter.unusedSimpArgs false
namespace Go.Proofs.YtfiflailjbmlpaaGreatDoor.patchSteps
open Go.AM
open Go.ChangeShapes Go.WideShapes Go.ChangeAt Go.RowKit
abbrev laid : List (String × DataW Unit) := [("tapline/insn.kinds", Rows.laid_tapline_insn_kinds)]
theorem lifted (os : Os) (started : os.Started) (H : Type) (enc : TypeId × Value → H) :
    ReturnsInHanded {} Tryz.checked os 3 .any (fun w args => (Rows.patchStepsSpec.pre enc Tryz.prog Tryz.f3 Rows.patchStepsRow.domain false w args ∧ laidMetH Tryz.prog laid w) ∧ sizedMet enc Tryz.prog Tryz.f3 (OpenSpec.ofChange Rows.patchStepsSpec) false w args)
      (Rows.patchStepsSpec.post enc Tryz.prog Tryz.f3 false true false false) := by
  refine returnsInHanded_of_change_and (C := Tryz.checked) (X := fun w _ => laidMetH Tryz.prog laid w) (fun _ _ _ hh h => h.of_heap hh) own started (by kernel_rfl) Tryz.func3
    (ChangeSpec.witness_shaped (enc := enc) (C := Tryz.checked) (os := os) (X := fun w _ => laidMetH Tryz.prog laid w) false (World.laidAll Tryz.prog os laid) #[.agg #[.slice none 0 0, .slice none 0 0, .slice none 0 0], .agg #[.int .i64 0, .int .i64 0, .int .i64 0, .int .i64 0, .int .i64 0, .int .i64 0, .int .i64 0, .int .i64 0, .int .i64 0], .int .i64 0] 8 (World.laidAll_os _ _ _)
      (World.shaped_of_ZipB (by kernel_rfl) (by kernel_rfl)) (by kernel_rfl) (by kernel_rfl) (by kernel_rfl)
      (by rw [MakeChecks.laidMetH_plain _ _ _ (by kernel_rfl)]; exact laidMet_laidAll _ (by kernel_rfl) (by kernel_rfl))) ?_
  intro W base args ds gs before hval0 hW hcnd _ hL _
  have hval : ∀ (j : Nat) t v, Tryz.f3.params[j]? = some t → args[j]? = some v → Value.okWide Tryz.prog W .any base t v := hval0
  have hW' := hW
  obtain ⟨p, q, hA0, hV, rfl, hfz, hnd⟩ := hW'
  have hA : DataW.TrodAll enc Tryz.prog W 0 (fun _ => true) true Tryz.f3.params.toList args.toList ds p := hA0
  rw [Tryz.params3] at hA hval
  obtain ⟨v0, vs0, d0, ds0, p0, q0, hargs, rfl, rfl, h0, t0⟩ := trodAll_cons hA
  obtain ⟨v1, vs1, d1, ds1, p1, q1, rfl, rfl, rfl, h1, t1⟩ := trodAll_cons t0
  obtain ⟨v2, vs2, d2, ds2, p2, q2, rfl, rfl, rfl, h2, t2⟩ := trodAll_cons t1
  obtain ⟨rfl, rfl, rfl⟩ := trodAll_nil t2
  obtain rfl : args = #[v0, v1, v2] := by cases args; simp_all
  obtain ⟨p0, g0⟩ := read_patched (hval 0 _ v0 rfl rfl) h0
  obtain ⟨r1, g1, w1⟩ := read_regs (hval 1 _ v1 rfl rfl) h1
  obtain ⟨n2, g2, w2⟩ := read_i64 (hval 2 _ v2 rfl rfl) h2
  refine law_contract (PatchSteps_c p0 r1 w1 n2 w2) hW rfl rfl Tryz.underlying4 rfl lout ?_ (glok hL) (vrs_cons g0 (vrs_cons g1 (vrs_cons g2 vrs_nil)))
  rw [Tryz.params3]
  exact rd_ok (by kernel_rfl)
theorem over : Rows.patchStepsRow.holds Tryz.pinned (OpenSpec.ofChange Rows.patchStepsSpec) :=
  OpenClaim.holds_of_wide 3 Tryz.f3 rfl rfl rfl rfl rfl rfl rfl ⟨rfl, rfl, rfl, rfl, rfl⟩ rfl rfl rfl rfl rfl (by kernel_rfl) Tryz.func3 (by kernel_rfl)
    (of_decide_eq_true (by kernel_rfl)) (by unfold Func.isWrapper; first | (rw [if_pos (by decide +kernel)]; kernel_rfl) | (rw [if_neg (by decide +kernel)]; exact ⟨rfl, rfl⟩))
    (fun os started H enc _ => lifted os started H enc)
end Go.Proofs.YtfiflailjbmlpaaGreatDoor.patchSteps
namespace Go.Proofs.YtfiflailjbmlpaaGreatDoor
open Go.ChangeShapes Go.WideShapes Go.ChangeAt Go.RowKit
theorem PatchSteps_holds : Rows.PatchStepsCardSaid :=
  Claim7.holds_tied_plain_at .later [] [.data] true (true, "ea4cc0f2ded47b671e2122025cf082f487491e1966c9bc2ced630b359658aba1") true patchSteps.over (fun _ h => by cases h) (by kernel_rfl) (fun _ h => by cases h) patchSteps_row_tie rfl ⟨rfl, rfl⟩ (by kernel_rfl) rfl
    (fun f fn hf hfn => by
      obtain rfl : f = 3 := Option.some.inj ((show Tryz.prog.funcNamed "tapline/taplinelaw07.PatchSteps" = some 3 by kernel_rfl).symm.trans hf) |>.symm
      obtain rfl : fn = Tryz.f3 := (Option.some.inj (Tryz.func3.symm.trans hfn)).symm
      exact ⟨by kernel_rfl, fun j t ht => by
        rw [Tryz.params3] at ht
        have hm : t ∈ [28, 31, 2] := by simpa using Array.mem_of_getElem? ht
        have hall : ([28, 31, 2].all fun u => !Tryz.prog.wantsStandIn u) = true := by kernel_rfl
        exact (show Tryz.prog.wantsStandIn t = false by simpa using List.all_eq_true.1 hall t hm)⟩)
    (by kernel_rfl)
end Go.Proofs.YtfiflailjbmlpaaGreatDoor
