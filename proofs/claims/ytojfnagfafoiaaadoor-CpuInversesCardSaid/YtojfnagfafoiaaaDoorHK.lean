/- cpu: the statement CpuInverses. No condition. -/
import Derived.Test.YtojfnagfafoiaaaDoorSV
import Derived.Test.YtojfnagfafoiaaaDoorSP
import Derived.Test.YtojfnagfafoiaaaDoorSS
import Derived.Test.YtojfnagfafoiaaaDoorSQ
set_option maxRecDepth 100000
set_option linter.unusedVariables false
set_option linter.unusedSimpArgs false
namespace Go.Proofs.YtojfnagfafoiaaaDoor
open Go.AM
theorem exec_pos' {x : Ins} (hx : x.ok) {s : Sp} {r : Rg} (hr : r.wf) : I64 (exec x s r).pos := by
  have hF := frame (x := x) (s := s) (r := r) hx hr
  by_cases hd : (exec x s r).data = []
  · rw [hF.pos0 hd]; exact ⟨by decide, by decide⟩
  · obtain ⟨a, ha, hw, hp, hsz⟩ := hF.acc hd
    rw [← hp]
    have hI := fun n => iw_I64 n
    have h7 : I64 r.r7 := hr.reg _ (by simp [Rg.list])
    revert ha
    unfold foot
    repeat' split
    all_goals simp
    all_goals intro h
    all_goals first
      | (subst h; first | exact hI _ | exact h7)
      | (rcases h with h | h <;> subst h <;> first | exact hI _ | exact h7)
def plV (s : Sp) (r : Rg) : AV := .agg (.view false 1 (s.perm.map r1) :: .view false 1 (s.byt.map rb) :: r.cells)
theorem after_no (x : Ins) (s : Sp) (r : Rg) (hr : r.wf) (h : ¬ (ef x s = 0 ∧ (exec x s r).trap.kind = 0)) : ACalls Tryd.prog 45 [x.av, plV s r] [] (fun o H => o = .ret (.tuple [plV s r, .bool false]) ∧ H = []) := by
  refine ACalls.up ?_
  refine ACalls.intro (cs := []) (n := 41) Tryd.func45 rfl rfl rfl (by kernel_rfl) rfl ?_
  generalize hpost : (fun (o : Out) (H : Heap) => o = Out.ret (.tuple [plV s r, .bool false]) ∧ H = []) = post
  have fin : ∀ H, Up 0 post (.ret (.tuple [plV s r, .bool false])) H := fun H => finv rfl (by rw [← hpost]; exact ⟨rfl, rfl⟩) H
  simp only [go_sem,Nat.reduceAdd,Nat.reduceSub,Nat.reduceMul,Nat.reduceEqDiff,Nat.reduceLeDiff,Nat.reduceLT,↓reduceIte,Int.reduceToNat,reduceCtorEq,Int.reduceLT,Int.reduceLE,Int.reduceGT,Int.reduceGE,Int.reduceEq,Int.reduceNe,Int.reduceNeg,Int.reduceAdd,Int.reduceSub,plV,Rg.cells,Ins.av,Ins.cells]
  refine rK_use (enters_of Tryd.func17 rfl (by decide)) (ACalls.pure_use (Exec_a x s r hr) rfl (by simp [AV.lt, ltL, Eff.av_lt])) ?_
  rcases Decidable.em (ef x s = 0) with hf | hf
  · rw [exE0 hf]
    have ht : ¬ (exec x s r).trap.kind = 0 := fun h1 => h ⟨hf, h1⟩
    simp only [go_sem,Nat.reduceAdd,Nat.reduceSub,Nat.reduceMul,Nat.reduceEqDiff,Nat.reduceLeDiff,Nat.reduceLT,↓reduceIte,Int.reduceToNat,reduceCtorEq,Int.reduceLT,Int.reduceLE,Int.reduceGT,Int.reduceGE,Int.reduceEq,Int.reduceNe,Int.reduceNeg,Int.reduceAdd,Int.reduceSub,Eff.av,Eff.cells,Eff.cellsD,hf,ht]
    exact fin _
  · simp only [go_sem,Nat.reduceAdd,Nat.reduceSub,Nat.reduceMul,Nat.reduceEqDiff,Nat.reduceLeDiff,Nat.reduceLT,↓reduceIte,Int.reduceToNat,reduceCtorEq,Int.reduceLT,Int.reduceLE,Int.reduceGT,Int.reduceGE,Int.reduceEq,Int.reduceNe,Int.reduceNeg,Int.reduceAdd,Int.reduceSub,Eff.av,Eff.cells,Eff.cellsD,hf]
    exact fin _
theorem after_yes (x : Ins) (s : Sp) (r : Rg) (hr : r.wf) (e : Eff) (he : exec x s r = e) (hf : ef x s = 0) (h0 : e.trap.kind = 0) :
    ACalls Tryd.prog 45 [x.av, plV s r] [] (fun o H => o = .ret (.tuple [plV (s.wr e.pos.toNat e.data) e.rg, .bool true]) ∧ H = []) := by
  refine ACalls.up ?_
  refine ACalls.intro (cs := []) (n := 41) Tryd.func45 rfl rfl rfl (by kernel_rfl) rfl ?_
  generalize hpost : (fun (o : Out) (H : Heap) => o = Out.ret (.tuple [plV (s.wr e.pos.toNat e.data) e.rg, .bool true]) ∧ H = []) = post
  have fin : ∀ H, Up 0 post (.ret (.tuple [plV (s.wr e.pos.toNat e.data) e.rg, .bool true])) H := fun H => finv rfl (by rw [← hpost]; exact ⟨rfl, rfl⟩) H
  simp only [go_sem,Nat.reduceAdd,Nat.reduceSub,Nat.reduceMul,Nat.reduceEqDiff,Nat.reduceLeDiff,Nat.reduceLT,↓reduceIte,Int.reduceToNat,reduceCtorEq,Int.reduceLT,Int.reduceLE,Int.reduceGT,Int.reduceGE,Int.reduceEq,Int.reduceNe,Int.reduceNeg,Int.reduceAdd,Int.reduceSub,plV,Rg.cells,Ins.av,Ins.cells]
  refine rK_use (enters_of Tryd.func17 rfl (by decide)) (ACalls.pure_use (Exec_a x s r hr) rfl (by simp [AV.lt, ltL, Eff.av_lt])) ?_
  obtain ⟨hs, hx⟩ := ef0 hf
  have hpos : I64 e.pos := he ▸ exec_pos' hx hr
  have hfit : Fits s e := he ▸ exec_fits hx hr
  have hA := Apply_c s e hpos
  rw [applyR, if_pos hs, if_pos hfit] at hA
  rw [exE0 hf, he]
  generalize s.wr e.pos.toNat e.data = t at *
  simp only [go_sem,Nat.reduceAdd,Nat.reduceSub,Nat.reduceMul,Nat.reduceEqDiff,Nat.reduceLeDiff,Nat.reduceLT,↓reduceIte,Int.reduceToNat,reduceCtorEq,Int.reduceLT,Int.reduceLE,Int.reduceGT,Int.reduceGE,Int.reduceEq,Int.reduceNe,Int.reduceNeg,Int.reduceAdd,Int.reduceSub,Eff.av,Eff.cells,Eff.cellsD,hf,h0]
  rw [show (iv 0 : AV) = iv e.trap.kind by rw [h0]]
  refine rK_use (enters_of Tryd.func41 rfl (by decide)) (ACalls.pure_use hA rfl rfl) ?_
  simp only [go_sem,Nat.reduceAdd,Nat.reduceSub,Nat.reduceMul,Nat.reduceEqDiff,Nat.reduceLeDiff,Nat.reduceLT,↓reduceIte,Int.reduceToNat,reduceCtorEq,Int.reduceLT,Int.reduceLE,Int.reduceGT,Int.reduceGE,Int.reduceEq,Int.reduceNe,Int.reduceNeg,Int.reduceAdd,Int.reduceSub,Sp.av]
  exact fin _
theorem rdP {n : Int} (h0 : 0 ≤ n) (h7 : n < 8) {c0 c1 t0 : AV} {a0 a1 a2 a3 a4 a5 a6 a7 : Int} : [c0, c1, iv a0, iv a1, iv a2, iv a3, iv a4, iv a5, iv a6, iv a7, t0][2 + n.toNat]? = some (iv (sel8 n a0 a1 a2 a3 a4 a5 a6 a7)) := by
  rcases cases8 h0 (by omega) with rfl | rfl | rfl | rfl | rfl | rfl | rfl | rfl <;> rfl
theorem eq8 : aEqTy Tryd.prog 28 = some [.i, .i, .i, .i, .i, .i, .i, .i] := by kernel_rfl
theorem I64_0 : I64 0 := ⟨by decide, by decide⟩
def plC (s : Sp) (r : Rg) : List AV := .view false 1 (s.perm.map r1) :: .view false 1 (s.byt.map rb) :: r.cells
theorem CpuInverses_c (s : Sp) (r : Rg) (hr : r.wf) (n0 n1 : UInt8) (n : Int) (hn : -32768 ≤ n ∧ n ≤ 32767) :
    ACalls Tryd.prog 13 [plV s r, .agg [bv n0, bv n1], .int .i16 n] [] (fun o H => o = .ret (.bool true) ∧ H = []) := by
  refine ACalls.up ?_
  refine ACalls.intro (cs := [5,9,11,16]) (n := 161) Tryd.func13 rfl rfl rfl (by kernel_rfl) rfl ?_
  generalize hpost : (fun (o : Out) (H : Heap) => o = Out.ret (.bool true) ∧ H = []) = post
  have fin : ∀ H, Up 0 post (.ret (.bool true)) H := fun H => finv rfl (by rw [← hpost]; exact ⟨rfl, rfl⟩) H
  simp only [go_sem,Nat.reduceAdd,Nat.reduceSub,Nat.reduceMul,Nat.reduceEqDiff,Nat.reduceLeDiff,Nat.reduceLT,↓reduceIte,Int.reduceToNat,reduceCtorEq,Int.reduceLT,Int.reduceLE,Int.reduceGT,Int.reduceGE,Int.reduceEq,Int.reduceNe,Int.reduceNeg,Int.reduceAdd,Int.reduceSub,plV,Rg.cells]
  refine rK_use (enters_of Tryd.func16 rfl (by decide)) (ACalls.pure_use (sane_c) rfl rfl) ?_
  have u0 := u8_lt n0
  have u1 := u8_lt n1
  have v0 := u8_ge n0
  have v1 := u8_ge n1
  obtain ⟨A, hA⟩ : ∃ A, (n0.toNat : Int).tmod 7 = A := ⟨_, rfl⟩
  obtain ⟨B, hB⟩ : ∃ B, (n1.toNat : Int).tmod 7 = B := ⟨_, rfl⟩
  have a0 : 0 ≤ A := hA ▸ Int.tmod_nonneg 7 v0
  have a6 : A ≤ 6 := by have := Int.tmod_lt_of_pos (n0.toNat : Int) (b := 7) (by decide); omega
  have b0 : 0 ≤ B := hB ▸ Int.tmod_nonneg 7 v1
  have b6 : B ≤ 6 := by have := Int.tmod_lt_of_pos (n1.toNat : Int) (b := 7) (by decide); omega
  have e0 : iw .i64 (n0.toNat : Int) = n0.toNat := iw64 (by omega) (by omega)
  have e1 : iw .i64 (n1.toNat : Int) = n1.toNat := iw64 (by omega) (by omega)
  simp only [go_sem,Nat.reduceAdd,Nat.reduceSub,Nat.reduceMul,Nat.reduceEqDiff,Nat.reduceLeDiff,Nat.reduceLT,↓reduceIte,Int.reduceToNat,reduceCtorEq,Int.reduceLT,Int.reduceLE,Int.reduceGT,Int.reduceGE,Int.reduceEq,Int.reduceNe,Int.reduceNeg,Int.reduceAdd,Int.reduceSub,e0,e1,hA,hB]
  have hxp := push_ok a0 (by omega : A ≤ 7)
  have hxq := pop_ok b0 (by omega : B ≤ 7)
  refine seq_cut (fun q : Sp × Rg × Bool => ((((((((Ch.nil.put 2 (.int .i16 n)).put 3 (.ptr 0 0 0)).put 7 (.bool true)).put 8 (iv A)).put 9 (iv B)).put 10 (.ptr 2 0 0)).put 11 (.bool q.2.2))))
    (fun q => [.rows 11 [plC s r], .rows 2 [[bv n0, bv n1]], .rows 11 [plC q.1 q.2.1]])
    (fun q => q.2.2 = true → s.ok ∧ ∃ e, exec (xPush A) s r = e ∧ e.trap.kind = 0 ∧ q.1 = s.wr e.pos.toNat e.data ∧ q.2.1 = e.rg) (by kernel_rfl) ?_ ?_
  · intro K1 hK1
    simp only [go_sem,Nat.reduceAdd,Nat.reduceSub,Nat.reduceMul,Nat.reduceEqDiff,Nat.reduceLeDiff,Nat.reduceLT,↓reduceIte,Int.reduceToNat,reduceCtorEq,Int.reduceLT,Int.reduceLE,Int.reduceGT,Int.reduceGE,Int.reduceEq,Int.reduceNe,Int.reduceNeg,Int.reduceAdd,Int.reduceSub]
    by_cases p1 : ef (xPush A) s = 0 ∧ (exec (xPush A) s r).trap.kind = 0
    · refine rK_use (enters_of Tryd.func45 rfl (by decide)) (ACalls.pure_use (after_yes (xPush A) s r hr _ rfl p1.1 p1.2) rfl rfl) ?_
      simp only [go_sem,Nat.reduceAdd,Nat.reduceSub,Nat.reduceMul,Nat.reduceEqDiff,Nat.reduceLeDiff,Nat.reduceLT,↓reduceIte,Int.reduceToNat,reduceCtorEq,Int.reduceLT,Int.reduceLE,Int.reduceGT,Int.reduceGE,Int.reduceEq,Int.reduceNe,Int.reduceNeg,Int.reduceAdd,Int.reduceSub,plV,Rg.cells]
      exact hK1 (_, _, true) _ _ (fun _ => ⟨(ef0 p1.1).1, _, rfl, p1.2, rfl, rfl⟩) (Wk.slots' rfl (by simp [wkS, Ch.get]))
    · refine rK_use (enters_of Tryd.func45 rfl (by decide)) (ACalls.pure_use (after_no (xPush A) s r hr p1) rfl rfl) ?_
      simp only [go_sem,Nat.reduceAdd,Nat.reduceSub,Nat.reduceMul,Nat.reduceEqDiff,Nat.reduceLeDiff,Nat.reduceLT,↓reduceIte,Int.reduceToNat,reduceCtorEq,Int.reduceLT,Int.reduceLE,Int.reduceGT,Int.reduceGE,Int.reduceEq,Int.reduceNe,Int.reduceNeg,Int.reduceAdd,Int.reduceSub,plV,Rg.cells]
      exact hK1 (s, r, false) _ _ (fun h => by cases h) (Wk.slots' rfl (by simp [wkS, Ch.get]))
  · rintro ⟨t, g, b⟩ hq
    simp only at hq
    simp only [go_sem,Nat.reduceAdd,Nat.reduceSub,Nat.reduceMul,Nat.reduceEqDiff,Nat.reduceLeDiff,Nat.reduceLT,↓reduceIte,Int.reduceToNat,reduceCtorEq,Int.reduceLT,Int.reduceLE,Int.reduceGT,Int.reduceGE,Int.reduceEq,Int.reduceNe,Int.reduceNeg,Int.reduceAdd,Int.reduceSub]
    refine seq_cut (fun q : Sp × Rg => (((((((Ch.nil.put 2 (.int .i16 n)).put 3 (.ptr 0 0 0)).put 7 (.bool true)).put 8 (iv A)).put 9 (iv B)).put 10 (.ptr 2 0 0))))
      (fun q => [.rows 11 [plC s r], .rows 2 [[bv n0, bv n1]], .rows 11 [plC q.1 q.2]]) (fun _ => True) (by kernel_rfl) ?_ ?_
    · intro K1 hK1
      simp only [go_sem,Nat.reduceAdd,Nat.reduceSub,Nat.reduceMul,Nat.reduceEqDiff,Nat.reduceLeDiff,Nat.reduceLT,↓reduceIte,Int.reduceToNat,reduceCtorEq,Int.reduceLT,Int.reduceLE,Int.reduceGT,Int.reduceGE,Int.reduceEq,Int.reduceNe,Int.reduceNeg,Int.reduceAdd,Int.reduceSub]
      cases b with
      | false =>
        simp only [go_sem,Nat.reduceAdd,Nat.reduceSub,Nat.reduceMul,Nat.reduceEqDiff,Nat.reduceLeDiff,Nat.reduceLT,↓reduceIte,Int.reduceToNat,reduceCtorEq,Int.reduceLT,Int.reduceLE,Int.reduceGT,Int.reduceGE,Int.reduceEq,Int.reduceNe,Int.reduceNeg,Int.reduceAdd,Int.reduceSub]
        exact hK1 (t, g) _ _ trivial (Wk.slots' rfl (by simp [wkS, Ch.get]))
      | true =>
        obtain ⟨hs, e, he, ht, rfl, rfl⟩ := hq rfl
        obtain ⟨f, h1, h2, h3, h4⟩ := pushed_pop (b := B) b0 b6 hs hr (by rw [he]; exact ht) he
        have hxw := exec_wf hxp I64_0 hr (s := s)
        rw [he] at hxw
        have htok : (s.wr e.pos.toNat e.data).ok := appl_ok hs (he ▸ exec_pos' hxp hr) (he ▸ exec_fits hxp hr)
        have hef : ef (xPop B) (s.wr e.pos.toNat e.data) = 0 := by rw [ef, if_pos htok, if_pos hxq]
        generalize s.wr e.pos.toNat e.data = t at *
        simp only [go_sem,Nat.reduceAdd,Nat.reduceSub,Nat.reduceMul,Nat.reduceEqDiff,Nat.reduceLeDiff,Nat.reduceLT,↓reduceIte,Int.reduceToNat,reduceCtorEq,Int.reduceLT,Int.reduceLE,Int.reduceGT,Int.reduceGE,Int.reduceEq,Int.reduceNe,Int.reduceNeg,Int.reduceAdd,Int.reduceSub,plC,Rg.cells]
        refine rK_use (enters_of Tryd.func45 rfl (by decide)) (ACalls.pure_use (after_yes (xPop B) t e.rg hxw f h1 hef h2) rfl rfl) ?_
        simp only [go_sem,Nat.reduceAdd,Nat.reduceSub,Nat.reduceMul,Nat.reduceEqDiff,Nat.reduceLeDiff,Nat.reduceLT,↓reduceIte,Int.reduceToNat,reduceCtorEq,Int.reduceLT,Int.reduceLE,Int.reduceGT,Int.reduceGE,Int.reduceEq,Int.reduceNe,Int.reduceNeg,Int.reduceAdd,Int.reduceSub,plV,Rg.cells]
        have g4 : (0 : Int) ≤ A ∧ A < 8 := ⟨a0, by omega⟩
        have g5 : (0 : Int) ≤ B ∧ B < 8 := ⟨b0, by omega⟩
        have h5 : f.rg.r7 = r.r7 := h4
        have h6 : sel8 B f.rg.r0 f.rg.r1 f.rg.r2 f.rg.r3 f.rg.r4 f.rg.r5 f.rg.r6 r.r7 = sel8 A r.r0 r.r1 r.r2 r.r3 r.r4 r.r5 r.r6 r.r7 := by
          have h7 : sel8 B f.rg.r0 f.rg.r1 f.rg.r2 f.rg.r3 f.rg.r4 f.rg.r5 f.rg.r6 f.rg.r7 = sel8 A r.r0 r.r1 r.r2 r.r3 r.r4 r.r5 r.r6 r.r7 := h3
          rw [h5] at h7
          exact h7
        refine draw [.qu 0 0, .qu 0 0, .qu 0 0, .qu 0 0, .qu 0 0, .qu 0 0, .qu 0 0, .qu 0 0, .qu 0 0, .qu 0 0, .qu 0 0, .qu 0 0, .qu 0 0, .qu 0 0, .qu 0 0, .qu 0 0, .qu 0 0, .qu 0 0, .qu 0 0, .qu 0 0, .qu 0 0, .qu 0 0, .qu 0 0, .qu 0 0, .qu 0 0, .qu 0 0] (by kernel_rfl) (by kernel_rfl) ?_
        simp only [go_sem,Nat.reduceAdd,Nat.reduceSub,Nat.reduceMul,Nat.reduceEqDiff,Nat.reduceLeDiff,Nat.reduceLT,↓reduceIte,Int.reduceToNat,reduceCtorEq,Int.reduceLT,Int.reduceLE,Int.reduceGT,Int.reduceGE,Int.reduceEq,Int.reduceNe,Int.reduceNeg,Int.reduceAdd,Int.reduceSub,g4,g5,rdP a0 (by omega),rdP b0 (by omega),h5,h6]
        refine hK1 (t, e.rg) _ _ trivial ?_
        exact Wk.drop (m := 3) (by simp [wkS, Ch.get]) (by decide) (by simp) (by simp [chLt, AV.lt]) rfl (by simp [Blk.lt, ltL, AV.lt, Rg.cells, plC])
    · rintro ⟨t2, g2⟩ _
      obtain ⟨M, hM⟩ : ∃ M, n.tmod 8192 = M := ⟨_, rfl⟩
      have m0 : -8192 ≤ M := by have := Int.lt_tmod_of_pos n (b := 8192) (by decide); omega
      have m1 : M < 8192 := by have := Int.tmod_lt_of_pos n (b := 8192) (by decide); omega
      have e2 : iw .i64 n = n := iw64 (by omega) (by omega)
      have hxc := call_ok m0 m1
      simp only [go_sem,Nat.reduceAdd,Nat.reduceSub,Nat.reduceMul,Nat.reduceEqDiff,Nat.reduceLeDiff,Nat.reduceLT,↓reduceIte,Int.reduceToNat,reduceCtorEq,Int.reduceLT,Int.reduceLE,Int.reduceGT,Int.reduceGE,Int.reduceEq,Int.reduceNe,Int.reduceNeg,Int.reduceAdd,Int.reduceSub,e2,hM]
      refine seq_cut (fun q : Sp × Rg × Bool => ((((((((Ch.nil.put 3 (.ptr 0 0 0)).put 7 (.bool true)).put 8 (iv A)).put 9 (iv B)).put 10 (.ptr 2 0 0)).put 14 (.ptr 3 0 0)).put 11 (.bool q.2.2))))
        (fun q => [.rows 11 [plC s r], .rows 2 [[bv n0, bv n1]], .rows 11 [plC q.1 q.2.1], .rows 4 [(xCall M).cells]])
        (fun q => q.2.2 = true → s.ok ∧ ∃ e, exec (xCall M) s r = e ∧ e.trap.kind = 0 ∧ q.1 = s.wr e.pos.toNat e.data ∧ q.2.1 = e.rg) (by kernel_rfl) ?_ ?_
      · intro K1 hK1
        simp only [go_sem,Nat.reduceAdd,Nat.reduceSub,Nat.reduceMul,Nat.reduceEqDiff,Nat.reduceLeDiff,Nat.reduceLT,↓reduceIte,Int.reduceToNat,reduceCtorEq,Int.reduceLT,Int.reduceLE,Int.reduceGT,Int.reduceGE,Int.reduceEq,Int.reduceNe,Int.reduceNeg,Int.reduceAdd,Int.reduceSub,plC,Rg.cells]
        by_cases p1 : ef (xCall M) s = 0 ∧ (exec (xCall M) s r).trap.kind = 0
        · refine rK_use (enters_of Tryd.func45 rfl (by decide)) (ACalls.pure_use (after_yes (xCall M) s r hr _ rfl p1.1 p1.2) rfl rfl) ?_
          simp only [go_sem,Nat.reduceAdd,Nat.reduceSub,Nat.reduceMul,Nat.reduceEqDiff,Nat.reduceLeDiff,Nat.reduceLT,↓reduceIte,Int.reduceToNat,reduceCtorEq,Int.reduceLT,Int.reduceLE,Int.reduceGT,Int.reduceGE,Int.reduceEq,Int.reduceNe,Int.reduceNeg,Int.reduceAdd,Int.reduceSub,plV,Rg.cells]
          exact hK1 (_, _, true) _ _ (fun _ => ⟨(ef0 p1.1).1, _, rfl, p1.2, rfl, rfl⟩) (Wk.slots' rfl (by simp [wkS, Ch.get]))
        · refine rK_use (enters_of Tryd.func45 rfl (by decide)) (ACalls.pure_use (after_no (xCall M) s r hr p1) rfl rfl) ?_
          simp only [go_sem,Nat.reduceAdd,Nat.reduceSub,Nat.reduceMul,Nat.reduceEqDiff,Nat.reduceLeDiff,Nat.reduceLT,↓reduceIte,Int.reduceToNat,reduceCtorEq,Int.reduceLT,Int.reduceLE,Int.reduceGT,Int.reduceGE,Int.reduceEq,Int.reduceNe,Int.reduceNeg,Int.reduceAdd,Int.reduceSub,plV,Rg.cells]
          exact hK1 (s, r, false) _ _ (fun h => by cases h) (Wk.slots' rfl (by simp [wkS, Ch.get]))
      · rintro ⟨t3, g3, b3⟩ hq3
        simp only at hq3
        simp only [go_sem,Nat.reduceAdd,Nat.reduceSub,Nat.reduceMul,Nat.reduceEqDiff,Nat.reduceLeDiff,Nat.reduceLT,↓reduceIte,Int.reduceToNat,reduceCtorEq,Int.reduceLT,Int.reduceLE,Int.reduceGT,Int.reduceGE,Int.reduceEq,Int.reduceNe,Int.reduceNeg,Int.reduceAdd,Int.reduceSub]
        refine seq_cut (fun q : Sp × Rg => (((((((Ch.nil.put 3 (.ptr 0 0 0)).put 7 (.bool true)).put 8 (iv A)).put 9 (iv B)).put 10 (.ptr 2 0 0)).put 14 (.ptr 3 0 0))))
          (fun q => [.rows 11 [plC s r], .rows 2 [[bv n0, bv n1]], .rows 11 [plC q.1 q.2], .rows 4 [(xCall M).cells]]) (fun _ => True) (by kernel_rfl) ?_ ?_
        · intro K1 hK1
          simp only [go_sem,Nat.reduceAdd,Nat.reduceSub,Nat.reduceMul,Nat.reduceEqDiff,Nat.reduceLeDiff,Nat.reduceLT,↓reduceIte,Int.reduceToNat,reduceCtorEq,Int.reduceLT,Int.reduceLE,Int.reduceGT,Int.reduceGE,Int.reduceEq,Int.reduceNe,Int.reduceNeg,Int.reduceAdd,Int.reduceSub]
          cases b3 with
          | false =>
            simp only [go_sem,Nat.reduceAdd,Nat.reduceSub,Nat.reduceMul,Nat.reduceEqDiff,Nat.reduceLeDiff,Nat.reduceLT,↓reduceIte,Int.reduceToNat,reduceCtorEq,Int.reduceLT,Int.reduceLE,Int.reduceGT,Int.reduceGE,Int.reduceEq,Int.reduceNe,Int.reduceNeg,Int.reduceAdd,Int.reduceSub]
            exact hK1 (t3, g3) _ _ trivial (Wk.slots' rfl (by simp [wkS, Ch.get]))
          | true =>
            obtain ⟨hs, e, he, ht, rfl, rfl⟩ := hq3 rfl
            obtain ⟨f, h1, h2, h3⟩ := called_ret hs hr (by rw [he]; exact ht) he
            have hIM : I64 M := ⟨by omega, by omega⟩
            have hxw := exec_wf hxc hIM hr (s := s)
            rw [he] at hxw
            have htok : (s.wr e.pos.toNat e.data).ok := appl_ok hs (he ▸ exec_pos' hxc hr) (he ▸ exec_fits hxc hr)
            have hef : ef xRet (s.wr e.pos.toNat e.data) = 0 := by rw [ef, if_pos htok, if_pos ret_ok]
            generalize s.wr e.pos.toNat e.data = t at *
            simp only [go_sem,Nat.reduceAdd,Nat.reduceSub,Nat.reduceMul,Nat.reduceEqDiff,Nat.reduceLeDiff,Nat.reduceLT,↓reduceIte,Int.reduceToNat,reduceCtorEq,Int.reduceLT,Int.reduceLE,Int.reduceGT,Int.reduceGE,Int.reduceEq,Int.reduceNe,Int.reduceNeg,Int.reduceAdd,Int.reduceSub,plC,Rg.cells]
            refine rK_use (enters_of Tryd.func45 rfl (by decide)) (ACalls.pure_use (after_yes xRet t e.rg hxw f h1 hef h2) rfl rfl) ?_
            simp only [go_sem,Nat.reduceAdd,Nat.reduceSub,Nat.reduceMul,Nat.reduceEqDiff,Nat.reduceLeDiff,Nat.reduceLT,↓reduceIte,Int.reduceToNat,reduceCtorEq,Int.reduceLT,Int.reduceLE,Int.reduceGT,Int.reduceGE,Int.reduceEq,Int.reduceNe,Int.reduceNeg,Int.reduceAdd,Int.reduceSub,plV,Rg.cells,Ins.cells,h3]
            refine rK_use (enters_of Tryd.func31 rfl (by decide)) (ACalls.pure_use (next_a hxc r.pc) rfl rfl) ?_
            simp only [go_sem,Nat.reduceAdd,Nat.reduceSub,Nat.reduceMul,Nat.reduceEqDiff,Nat.reduceLeDiff,Nat.reduceLT,↓reduceIte,Int.reduceToNat,reduceCtorEq,Int.reduceLT,Int.reduceLE,Int.reduceGT,Int.reduceGE,Int.reduceEq,Int.reduceNe,Int.reduceNeg,Int.reduceAdd,Int.reduceSub,eq8]
            refine hK1 (t, e.rg) _ _ trivial ?_
            exact Wk.drop (m := 4) (by simp [wkS, Ch.get]) (by decide) (by simp) (by simp [chLt, AV.lt]) rfl (by simp [Blk.lt, ltL, AV.lt, Rg.cells, plC, Ins.cells])
        · rintro ⟨t4, g4⟩ _
          have hxs := swap_ok a0 (by omega : A ≤ 7) b0 (by omega : B ≤ 7)
          simp only [go_sem,Nat.reduceAdd,Nat.reduceSub,Nat.reduceMul,Nat.reduceEqDiff,Nat.reduceLeDiff,Nat.reduceLT,↓reduceIte,Int.reduceToNat,reduceCtorEq,Int.reduceLT,Int.reduceLE,Int.reduceGT,Int.reduceGE,Int.reduceEq,Int.reduceNe,Int.reduceNeg,Int.reduceAdd,Int.reduceSub,plC,Rg.cells,Ins.cells]
          by_cases p1 : ef (xSwap A B) s = 0 ∧ (exec (xSwap A B) s r).trap.kind = 0
          rotate_left
          · refine rK_use (enters_of Tryd.func45 rfl (by decide)) (ACalls.pure_use (after_no (xSwap A B) s r hr p1) rfl rfl) ?_
            simp only [go_sem,Nat.reduceAdd,Nat.reduceSub,Nat.reduceMul,Nat.reduceEqDiff,Nat.reduceLeDiff,Nat.reduceLT,↓reduceIte,Int.reduceToNat,reduceCtorEq,Int.reduceLT,Int.reduceLE,Int.reduceGT,Int.reduceGE,Int.reduceEq,Int.reduceNe,Int.reduceNeg,Int.reduceAdd,Int.reduceSub,plV,Rg.cells]
            exact fin _
          obtain ⟨hs, _⟩ := ef0 p1.1
          refine rK_use (enters_of Tryd.func45 rfl (by decide)) (ACalls.pure_use (after_yes (xSwap A B) s r hr _ rfl p1.1 p1.2) rfl rfl) ?_
          have hpk := p1.2
          have hw := exec_wf hxs I64_0 hr (s := s)
          have hpo := exec_pos' hxs hr (s := s)
          have hfi := exec_fits hxs hr (s := s)
          have htok := appl_ok hs hpo hfi
          have hef : ef (xSwap A B) (s.wr (exec (xSwap A B) s r).pos.toNat (exec (xSwap A B) s r).data) = 0 := by rw [ef, if_pos htok, if_pos hxs]
          rcases Decidable.em (A = B) with hab | hab
          · simp only [go_sem,Nat.reduceAdd,Nat.reduceSub,Nat.reduceMul,Nat.reduceEqDiff,Nat.reduceLeDiff,Nat.reduceLT,↓reduceIte,Int.reduceToNat,reduceCtorEq,Int.reduceLT,Int.reduceLE,Int.reduceGT,Int.reduceGE,Int.reduceEq,Int.reduceNe,Int.reduceNeg,Int.reduceAdd,Int.reduceSub,plV,Rg.cells,eq_true hab]
            exact fin _
          obtain ⟨f, q1, q2, ⟨p, q3⟩, q4⟩ := swapped a0 a6 b0 b6 hab hs hr hpk rfl
          have h32 : ((s.wr (exec (xSwap A B) s r).pos.toNat (exec (xSwap A B) s r).data).wr f.pos.toNat f.data).perm.length ≤ 1000000000 := by rw [q4]; have := hs.p32; omega
          generalize s.wr (exec (xSwap A B) s r).pos.toNat (exec (xSwap A B) s r).data = t at *
          generalize exec (xSwap A B) s r = e at *
          simp only [go_sem,Nat.reduceAdd,Nat.reduceSub,Nat.reduceMul,Nat.reduceEqDiff,Nat.reduceLeDiff,Nat.reduceLT,↓reduceIte,Int.reduceToNat,reduceCtorEq,Int.reduceLT,Int.reduceLE,Int.reduceGT,Int.reduceGE,Int.reduceEq,Int.reduceNe,Int.reduceNeg,Int.reduceAdd,Int.reduceSub,plV,Rg.cells,Ins.cells,eq_false hab]
          refine rK_use (enters_of Tryd.func45 rfl (by decide)) (ACalls.pure_use (after_yes (xSwap A B) t e.rg hw f q1 hef q2) rfl rfl) ?_
          simp only [go_sem,Nat.reduceAdd,Nat.reduceSub,Nat.reduceMul,Nat.reduceEqDiff,Nat.reduceLeDiff,Nat.reduceLT,↓reduceIte,Int.reduceToNat,reduceCtorEq,Int.reduceLT,Int.reduceLE,Int.reduceGT,Int.reduceGE,Int.reduceEq,Int.reduceNe,Int.reduceNeg,Int.reduceAdd,Int.reduceSub,plV,Rg.cells,q3,q4,eq8]
          refine rK_use (enters_of Tryd.func43 rfl (by decide)) (ACalls.pure_use (rsames_c s s (by rw [q4] at h32; exact h32)) rfl rfl) ?_
          rw [sameS_self]
          simp only [go_sem,Nat.reduceAdd,Nat.reduceSub,Nat.reduceMul,Nat.reduceEqDiff,Nat.reduceLeDiff,Nat.reduceLT,↓reduceIte,Int.reduceToNat,reduceCtorEq,Int.reduceLT,Int.reduceLE,Int.reduceGT,Int.reduceGE,Int.reduceEq,Int.reduceNe,Int.reduceNeg,Int.reduceAdd,Int.reduceSub]
          exact fin _
end Go.Proofs.YtojfnagfafoiaaaDoor

set_option maxRecDepth 100000
set_option linter.unusedVariables false
set_option linter.unusedSimpArgs false
namespace Go.Proofs.YtojfnagfafoiaaaDoor.cpuInverses
open Go.AM
open Go.ChangeShapes Go.WideShapes Go.ChangeAt Go.RowKit
abbrev laid : List (String × DataW Unit) := [("tapline/insn.kinds", Rows.laid_tapline_insn_kinds)]
theorem lifted (os : Os) (started : os.Started) (H : Type) (enc : TypeId × Value → H) :
    ReturnsInHanded {} Tryd.checked os 13 .any (fun w args => (Rows.cpuInversesSpec.pre enc Tryd.prog Tryd.f13 Rows.cpuInversesRow.domain false w args ∧ laidMetH Tryd.prog laid w) ∧ sizedMet enc Tryd.prog Tryd.f13 (OpenSpec.ofChange Rows.cpuInversesSpec) false w args)
      (Rows.cpuInversesSpec.post enc Tryd.prog Tryd.f13 false true false false) := by
  refine returnsInHanded_of_change_and (C := Tryd.checked) (X := fun w _ => laidMetH Tryd.prog laid w) (fun _ _ _ hh h => h.of_heap hh) own started (by kernel_rfl) Tryd.func13
    (ChangeSpec.witness_shaped (enc := enc) (C := Tryd.checked) (os := os) (X := fun w _ => laidMetH Tryd.prog laid w) false (World.laidAll Tryd.prog os laid) #[.agg #[.slice none 0 0, .slice none 0 0, .int .i64 0, .int .i64 0, .int .i64 0, .int .i64 0, .int .i64 0, .int .i64 0, .int .i64 0, .int .i64 0, .int .i64 0], .agg #[.int .u8 0, .int .u8 0], .int .i16 0] 8 (World.laidAll_os _ _ _)
      (World.shaped_of_ZipB (by kernel_rfl) (by kernel_rfl)) (by kernel_rfl) (by kernel_rfl) (by kernel_rfl)
      (by rw [MakeChecks.laidMetH_plain _ _ _ (by kernel_rfl)]; exact laidMet_laidAll _ (by kernel_rfl) (by kernel_rfl))) ?_
  intro W base args ds gs before hval0 hW hcnd _ hL _
  have hval : ∀ (j : Nat) t v, Tryd.f13.params[j]? = some t → args[j]? = some v → Value.okWide Tryd.prog W .any base t v := hval0
  have hW' := hW
  obtain ⟨p, q, hA0, hV, rfl, hfz, hnd⟩ := hW'
  have hA : DataW.TrodAll enc Tryd.prog W 0 (fun _ => true) true Tryd.f13.params.toList args.toList ds p := hA0
  rw [Tryd.params13] at hA hval
  obtain ⟨v0, vs0, d0, ds0, p0, q0, hargs, rfl, rfl, h0, t0⟩ := trodAll_cons hA
  obtain ⟨v1, vs1, d1, ds1, p1, q1, rfl, rfl, rfl, h1, t1⟩ := trodAll_cons t0
  obtain ⟨v2, vs2, d2, ds2, p2, q2, rfl, rfl, rfl, h2, t2⟩ := trodAll_cons t1
  obtain ⟨rfl, rfl, rfl⟩ := trodAll_nil t2
  obtain rfl : args = #[v0, v1, v2] := by cases args; simp_all
  obtain ⟨s0, r0, g0, w0⟩ := read_place (hval 0 _ v0 rfl rfl) h0
  obtain ⟨a1, b1, g1⟩ := read_two (hval 1 _ v1 rfl rfl) h1
  obtain ⟨n2, g2, w2⟩ := read_i16 (hval 2 _ v2 rfl rfl) h2
  refine law_contract (CpuInverses_c s0 r0 w0 a1 b1 n2 w2) hW rfl rfl Tryd.underlying4 rfl lout ?_ (glok hL) (vrs_cons g0 (vrs_cons g1 (vrs_cons g2 vrs_nil)))
  rw [Tryd.params13]
  exact rd_ok (by kernel_rfl)
theorem over : Rows.cpuInversesRow.holds Tryd.pinned (OpenSpec.ofChange Rows.cpuInversesSpec) :=
  OpenClaim.holds_of_wide 13 Tryd.f13 rfl rfl rfl rfl rfl rfl rfl ⟨rfl, rfl, rfl, rfl, rfl⟩ rfl rfl rfl rfl rfl (by kernel_rfl) Tryd.func13 (by kernel_rfl)
    (of_decide_eq_true (by kernel_rfl)) (by unfold Func.isWrapper; first | (rw [if_pos (by decide +kernel)]; kernel_rfl) | (rw [if_neg (by decide +kernel)]; exact ⟨rfl, rfl⟩))
    (fun os started H enc _ => lifted os started H enc)
end Go.Proofs.YtojfnagfafoiaaaDoor.cpuInverses
namespace Go.Proofs.YtojfnagfafoiaaaDoor
open Go.ChangeShapes Go.WideShapes Go.ChangeAt Go.RowKit
theorem CpuInverses_holds : Rows.CpuInversesCardSaid :=
  Claim7.holds_tied_plain_at .later [] [.data] true (true, "761dd2c4e361e325525882ee5ba11d7f08fc5ffec0876965a76a3878492cd312") true cpuInverses.over (fun _ h => by cases h) (by kernel_rfl) (fun _ h => by cases h) cpuInverses_row_tie rfl ⟨rfl, rfl⟩ (by kernel_rfl) rfl
    (fun f fn hf hfn => by
      obtain rfl : f = 13 := Option.some.inj ((show Tryd.prog.funcNamed "tapline/taplinelaw04.CpuInverses" = some 13 by kernel_rfl).symm.trans hf) |>.symm
      obtain rfl : fn = Tryd.f13 := (Option.some.inj (Tryd.func13.symm.trans hfn)).symm
      exact ⟨by kernel_rfl, fun j t ht => by
        rw [Tryd.params13] at ht
        have hm : t ∈ [49, 94, 95] := by simpa using Array.mem_of_getElem? ht
        have hall : ([49, 94, 95].all fun u => !Tryd.prog.wantsStandIn u) = true := by kernel_rfl
        exact (show Tryd.prog.wantsStandIn t = false by simpa using List.all_eq_true.1 hall t hm)⟩)
    (by kernel_rfl)
end Go.Proofs.YtojfnagfafoiaaaDoor
