/- cpu: the statement CpuStores. No condition. -/
import Derived.Test.YtojfnagfafoiaaaDoorSR
import Derived.Test.YtojfnagfafoiaaaDoorSE
set_option maxRecDepth 100000
set_option linter.unusedVariables false
set_option linter.unusedSimpArgs false
namespace Go.Proofs.YtojfnagfafoiaaaDoor
open Go.AM
theorem exec_pos {x : Ins} (hx : x.ok) {s : Sp} {r : Rg} (hr : r.wf) : I64 (exec x s r).pos := by
  have hF := frame (x := x) (s := s) (r := r) hx hr
  by_cases hd : (exec x s r).data = []
  · rw [hF.pos0 hd]; exact ⟨by decide, by decide⟩
  · obtain ⟨a, ha, hw, hp, hsz⟩ := hF.acc hd
    rw [← hp]
    have hI := fun n => iw_I64 n
    have h7 : I64 r.r7 := hr.reg _ (by simp [Rg.list])
    revert ha
    unfold foot
    repeat' split
    all_goals simp
    all_goals intro h
    all_goals first
      | (subst h; first | exact hI _ | exact h7)
      | (rcases h with h | h <;> subst h <;> first | exact hI _ | exact h7)
theorem step_pos {s : Sp} {r : Rg} (hr : r.wf) : I64 (step s r).pos := by
  unfold step
  split
  · rename_i h; exact exec_pos (dec_ok h) hr
  · have h0 : I64 0 := ⟨by decide, by decide⟩
    split <;> exact h0
theorem CpuStores_c (x : Ins) (s : Sp) (r : Rg) (hr : r.wf) : ACalls Tryd.prog 10 [x.av, .agg (.view false 1 (s.perm.map r1) :: .view false 1 (s.byt.map rb) :: r.cells)] [] (fun o H => o = .ret (.bool true) ∧ H = []) := by
  refine ACalls.up ?_
  refine ACalls.intro (cs := [8]) (n := 128) Tryd.func10 rfl rfl rfl (by kernel_rfl) rfl ?_
  generalize hpost : (fun (o : Out) (H : Heap) => o = Out.ret (.bool true) ∧ H = []) = post
  have fin : ∀ H, Up 0 post (.ret (.bool true)) H := fun H => finv rfl (by rw [← hpost]; exact ⟨rfl, rfl⟩) H
  simp only [go_sem,Nat.reduceAdd,Nat.reduceSub,Nat.reduceMul,Nat.reduceEqDiff,Nat.reduceLeDiff,Nat.reduceLT,↓reduceIte,Int.reduceToNat,reduceCtorEq,Int.reduceLT,Int.reduceLE,Int.reduceGT,Int.reduceGE,Int.reduceEq,Int.reduceNe,Int.reduceNeg,Int.reduceAdd,Int.reduceSub,Rg.cells,Ins.av,Ins.cells]
  refine rK_use (enters_of Tryd.func16 rfl (by decide)) (ACalls.pure_use (sane_c) rfl rfl) ?_
  simp only [go_sem,Nat.reduceAdd,Nat.reduceSub,Nat.reduceMul,Nat.reduceEqDiff,Nat.reduceLeDiff,Nat.reduceLT,↓reduceIte,Int.reduceToNat,reduceCtorEq,Int.reduceLT,Int.reduceLE,Int.reduceGT,Int.reduceGE,Int.reduceEq,Int.reduceNe,Int.reduceNeg,Int.reduceAdd,Int.reduceSub]
  refine loop_fam (fun k : Nat => ((((Ch.nil.put 2 (.ptr 0 0 0)).put 3 (.ptr 1 0 0)).put 5 (.bool true)).put 6 (iv k)))
    (fun _ => [.rows 4 [x.cells], .rows 11 [.view false 1 (s.perm.map r1) :: .view false 1 (s.byt.map rb) :: r.cells]]) (fun k => 2 - k) (fun k => k ≤ 2) 0 (by kernel_rfl) (Nat.zero_le _) (Wk.slots' rfl (by simp [wkS, Ch.get])) ?_
  rintro k hk K hK
  simp only [go_sem,Nat.reduceAdd,Nat.reduceSub,Nat.reduceMul,Nat.reduceEqDiff,Nat.reduceLeDiff,Nat.reduceLT,↓reduceIte,Int.reduceToNat,reduceCtorEq,Int.reduceLT,Int.reduceLE,Int.reduceGT,Int.reduceGE,Int.reduceEq,Int.reduceNe,Int.reduceNeg,Int.reduceAdd,Int.reduceSub,Rg.cells,Ins.cells]
  refine condD_dec (fun hc => ?_) (fun hc => ?_)
  rotate_left
  · simp only [go_sem,Nat.reduceAdd,Nat.reduceSub,Nat.reduceMul,Nat.reduceEqDiff,Nat.reduceLeDiff,Nat.reduceLT,↓reduceIte,Int.reduceToNat,reduceCtorEq,Int.reduceLT,Int.reduceLE,Int.reduceGT,Int.reduceGE,Int.reduceEq,Int.reduceNe,Int.reduceNeg,Int.reduceAdd,Int.reduceSub]
    exact fin _
  have e1 : iw .i64 ((k : Int) + 1) = ((k + 1 : Nat) : Int) := by rw [iw64] <;> omega
  simp only [go_sem,Nat.reduceAdd,Nat.reduceSub,Nat.reduceMul,Nat.reduceEqDiff,Nat.reduceLeDiff,Nat.reduceLT,↓reduceIte,Int.reduceToNat,reduceCtorEq,Int.reduceLT,Int.reduceLE,Int.reduceGT,Int.reduceGE,Int.reduceEq,Int.reduceNe,Int.reduceNeg,Int.reduceAdd,Int.reduceSub,Rg.cells]
  refine rK_use (enters_of Tryd.func18 rfl (by decide)) (ACalls.pure_use (Step_a s r hr) rfl (by simp [AV.lt, ltL, Eff.av_lt])) ?_
  simp only [go_sem,Nat.reduceAdd,Nat.reduceSub,Nat.reduceMul,Nat.reduceEqDiff,Nat.reduceLeDiff,Nat.reduceLT,↓reduceIte,Int.reduceToNat,reduceCtorEq,Int.reduceLT,Int.reduceLE,Int.reduceGT,Int.reduceGE,Int.reduceEq,Int.reduceNe,Int.reduceNeg,Int.reduceAdd,Int.reduceSub,Eff.av,Eff.cells,Eff.cellsD]
  refine seq_cut (fun q : Eff × Int => ((((((Ch.nil.put 2 (.ptr 0 0 0)).put 3 (.ptr 1 0 0)).put 5 (.bool true)).put 6 (iv k)).put 7 (.ptr 2 0 0)).put 8 (iv q.2)))
    (fun q => [.rows 4 [x.cells], .rows 11 [.view false 1 (s.perm.map r1) :: .view false 1 (s.byt.map rb) :: r.cells], .rows 19 [q.1.cells]]) (fun q => q.2 = 0 → s.ok ∧ Fits s q.1 ∧ I64 q.1.pos) (by kernel_rfl) ?_ ?_
  · intro K1 hK1
    simp only [go_sem,Nat.reduceAdd,Nat.reduceSub,Nat.reduceMul,Nat.reduceEqDiff,Nat.reduceLeDiff,Nat.reduceLT,↓reduceIte,Int.reduceToNat,reduceCtorEq,Int.reduceLT,Int.reduceLE,Int.reduceGT,Int.reduceGE,Int.reduceEq,Int.reduceNe,Int.reduceNeg,Int.reduceAdd,Int.reduceSub]
    refine condD_dec (fun h1 => ?_) (fun h1 => ?_)
    · simp only [go_sem,Nat.reduceAdd,Nat.reduceSub,Nat.reduceMul,Nat.reduceEqDiff,Nat.reduceLeDiff,Nat.reduceLT,↓reduceIte,Int.reduceToNat,reduceCtorEq,Int.reduceLT,Int.reduceLE,Int.reduceGT,Int.reduceGE,Int.reduceEq,Int.reduceNe,Int.reduceNeg,Int.reduceAdd,Int.reduceSub,Rg.cells,Ins.cells]
      refine rK_use (enters_of Tryd.func17 rfl (by decide)) (ACalls.pure_use (Exec_a x s r hr) rfl (by simp [AV.lt, ltL, Eff.av_lt])) ?_
      simp only [go_sem,Nat.reduceAdd,Nat.reduceSub,Nat.reduceMul,Nat.reduceEqDiff,Nat.reduceLeDiff,Nat.reduceLT,↓reduceIte,Int.reduceToNat,reduceCtorEq,Int.reduceLT,Int.reduceLE,Int.reduceGT,Int.reduceGE,Int.reduceEq,Int.reduceNe,Int.reduceNeg,Int.reduceAdd,Int.reduceSub,Eff.av,Eff.cells,Eff.cellsD]
      refine hK1 (exE x s r, ef x s) _ _ (fun h => ?_) (Wk.slots' rfl (by simp [wkS, Ch.get]))
      have hx := (ef0 h).2
      rw [exE0 h]
      exact ⟨(ef0 h).1, exec_fits hx hr, exec_pos hx hr⟩
    · simp only [go_sem,Nat.reduceAdd,Nat.reduceSub,Nat.reduceMul,Nat.reduceEqDiff,Nat.reduceLeDiff,Nat.reduceLT,↓reduceIte,Int.reduceToNat,reduceCtorEq,Int.reduceLT,Int.reduceLE,Int.reduceGT,Int.reduceGE,Int.reduceEq,Int.reduceNe,Int.reduceNeg,Int.reduceAdd,Int.reduceSub]
      refine hK1 (stE s r, s.chk) _ _ (fun h => ?_) (Wk.slots' rfl (by simp [wkS, Ch.get]))
      by_cases hs : s.ok
      · rw [stEo hs]
        exact ⟨hs, step_fits hr, step_pos hr⟩
      · rw [chkn hs] at h
        exact absurd (show (30 : Int) = 0 from h) (by decide)
  · rintro ⟨e, f⟩ hq
    simp only at hq
    simp only [go_sem,Nat.reduceAdd,Nat.reduceSub,Nat.reduceMul,Nat.reduceEqDiff,Nat.reduceLeDiff,Nat.reduceLT,↓reduceIte,Int.reduceToNat,reduceCtorEq,Int.reduceLT,Int.reduceLE,Int.reduceGT,Int.reduceGE,Int.reduceEq,Int.reduceNe,Int.reduceNeg,Int.reduceAdd,Int.reduceSub]
    rcases Decidable.em (f = 0) with hf | hf
    rotate_left
    · simp only [go_sem,Nat.reduceAdd,Nat.reduceSub,Nat.reduceMul,Nat.reduceEqDiff,Nat.reduceLeDiff,Nat.reduceLT,↓reduceIte,Int.reduceToNat,reduceCtorEq,Int.reduceLT,Int.reduceLE,Int.reduceGT,Int.reduceGE,Int.reduceEq,Int.reduceNe,Int.reduceNeg,Int.reduceAdd,Int.reduceSub,hf,e1]
      exact hK (k + 1) _ _ (by omega) (by omega) (Wk.drop (m := 2) (by simp [wkS, Ch.get]) (by decide) (by simp) (by simp [chLt, AV.lt]) rfl (by simp [Blk.lt, ltL, AV.lt, Ins.cells, Rg.cells]))
    subst hf
    obtain ⟨hs, hfit, hpos⟩ := hq rfl
    have hA := Apply_c s e hpos
    have hap : applyR s e = (s.wr e.pos.toNat e.data, 0) := by rw [applyR, if_pos hs, if_pos hfit]
    have hlen := appl_len hs hpos hfit
    have hin := fits_in hs hpos hfit
    have h6 := hs.p32
    have hbl := bytl hs
    have h8 := hfit.len
    have hp0 := hfit.pos
    rw [hap] at hA
    have htp : (s.wr e.pos.toNat e.data).perm = s.perm := rfl
    have hwg := fun i => wr_get (s := s) (p := e.pos.toNat) (d := e.data) (i := i)
    generalize s.wr e.pos.toNat e.data = t at *
    simp only [go_sem,Nat.reduceAdd,Nat.reduceSub,Nat.reduceMul,Nat.reduceEqDiff,Nat.reduceLeDiff,Nat.reduceLT,↓reduceIte,Int.reduceToNat,reduceCtorEq,Int.reduceLT,Int.reduceLE,Int.reduceGT,Int.reduceGE,Int.reduceEq,Int.reduceNe,Int.reduceNeg,Int.reduceAdd,Int.reduceSub,Rg.cells,Eff.cells,Eff.cellsD]
    refine rK_use (enters_of Tryd.func41 rfl (by decide)) (ACalls.pure_use hA rfl rfl) ?_
    simp only [go_sem,Nat.reduceAdd,Nat.reduceSub,Nat.reduceMul,Nat.reduceEqDiff,Nat.reduceLeDiff,Nat.reduceLT,↓reduceIte,Int.reduceToNat,reduceCtorEq,Int.reduceLT,Int.reduceLE,Int.reduceGT,Int.reduceGE,Int.reduceEq,Int.reduceNe,Int.reduceNeg,Int.reduceAdd,Int.reduceSub,Sp.av,List.length_map,hlen,htp]
    refine loop_fam (fun i : Nat => (((((((((Ch.nil.put 2 (.ptr 0 0 0)).put 3 (.ptr 1 0 0)).put 5 (.bool true)).put 6 (iv k)).put 7 (.ptr 2 0 0)).put 9 (.ptr 3 0 0)).put 11 (iv i)))))
      (fun _ => [.rows 4 [x.cells], .rows 11 [.view false 1 (s.perm.map r1) :: .view false 1 (s.byt.map rb) :: r.cells], .rows 19 [e.cells], .rows 2 [[.view false 1 (s.perm.map r1), .view false 1 (t.byt.map rb)]]])
      (fun i => s.perm.length - i) (fun i => i ≤ s.perm.length) 0 (by kernel_rfl) (Nat.zero_le _) (Wk.slots' rfl (by simp [wkS, Ch.get])) ?_
    rintro i hi K2 hK2
    simp only [go_sem,Nat.reduceAdd,Nat.reduceSub,Nat.reduceMul,Nat.reduceEqDiff,Nat.reduceLeDiff,Nat.reduceLT,↓reduceIte,Int.reduceToNat,reduceCtorEq,Int.reduceLT,Int.reduceLE,Int.reduceGT,Int.reduceGE,Int.reduceEq,Int.reduceNe,Int.reduceNeg,Int.reduceAdd,Int.reduceSub,List.length_map]
    refine condD_dec (fun hd => ?_) (fun hd => ?_)
    · obtain ⟨p, hp⟩ := at_lt (l := s.perm) (i := i) (by omega)
      have e2 : iw .i64 ((i : Int) + 1) = ((i + 1 : Nat) : Int) := by rw [iw64] <;> omega
      have g1 : (0 : Int) ≤ i ∧ (i : Int) < s.perm.length := ⟨by omega, by omega⟩
      simp only [go_sem,Nat.reduceAdd,Nat.reduceSub,Nat.reduceMul,Nat.reduceEqDiff,Nat.reduceLeDiff,Nat.reduceLT,↓reduceIte,Int.reduceToNat,reduceCtorEq,Int.reduceLT,Int.reduceLE,Int.reduceGT,Int.reduceGE,Int.reduceEq,Int.reduceNe,Int.reduceNeg,Int.reduceAdd,Int.reduceSub]
      refine draw [.qu 0 0, .qu 0 0, .qu 0 0, .qu 0 0, .qu 0 0, .qu 0 0, .qu 0 0, .qu 0 0, .qu 0 0, .qu 0 0, .qu 0 0, .qu 0 0] (by kernel_rfl) (by kernel_rfl) ?_
      simp only [go_sem,Nat.reduceAdd,Nat.reduceSub,Nat.reduceMul,Nat.reduceEqDiff,Nat.reduceLeDiff,Nat.reduceLT,↓reduceIte,Int.reduceToNat,reduceCtorEq,Int.reduceLT,Int.reduceLE,Int.reduceGT,Int.reduceGE,Int.reduceEq,Int.reduceNe,Int.reduceNeg,Int.reduceAdd,Int.reduceSub,hp,List.getElem?_map,List.length_map,g1,e2]
      exact hK2 (i + 1) _ _ (by omega) (by omega) (Wk.slots' rfl (by simp [wkS, Ch.get]))
    · simp only [go_sem,Nat.reduceAdd,Nat.reduceSub,Nat.reduceMul,Nat.reduceEqDiff,Nat.reduceLeDiff,Nat.reduceLT,↓reduceIte,Int.reduceToNat,reduceCtorEq,Int.reduceLT,Int.reduceLE,Int.reduceGT,Int.reduceGE,Int.reduceEq,Int.reduceNe,Int.reduceNeg,Int.reduceAdd,Int.reduceSub]
      refine loop_fam (fun i : Nat => (((((((((Ch.nil.put 2 (.ptr 0 0 0)).put 3 (.ptr 1 0 0)).put 5 (.bool true)).put 6 (iv k)).put 7 (.ptr 2 0 0)).put 9 (.ptr 3 0 0)).put 12 (iv i)))))
        (fun _ => [.rows 4 [x.cells], .rows 11 [.view false 1 (s.perm.map r1) :: .view false 1 (s.byt.map rb) :: r.cells], .rows 19 [e.cells], .rows 2 [[.view false 1 (s.perm.map r1), .view false 1 (t.byt.map rb)]]])
        (fun i => s.byt.length - i) (fun i => i ≤ s.byt.length) 0 (by kernel_rfl) (Nat.zero_le _) (Wk.slots' rfl (by simp [wkS, Ch.get])) ?_
      rintro j hj K3 hK3
      simp only [go_sem,Nat.reduceAdd,Nat.reduceSub,Nat.reduceMul,Nat.reduceEqDiff,Nat.reduceLeDiff,Nat.reduceLT,↓reduceIte,Int.reduceToNat,reduceCtorEq,Int.reduceLT,Int.reduceLE,Int.reduceGT,Int.reduceGE,Int.reduceEq,Int.reduceNe,Int.reduceNeg,Int.reduceAdd,Int.reduceSub,List.length_map,hlen]
      refine condD_dec (fun hd2 => ?_) (fun hd2 => ?_)
      · obtain ⟨b, hb⟩ := at_lt (l := s.byt) (i := j) (by omega)
        obtain ⟨c, hc2⟩ := at_lt (l := t.byt) (i := j) (by omega)
        have e2 : iw .i64 ((j : Int) + 1) = ((j + 1 : Nat) : Int) := by rw [iw64] <;> omega
        have g1 : (0 : Int) ≤ j ∧ (j : Int) < s.byt.length := ⟨by omega, by omega⟩
        have g2 : (0 : Int) ≤ j ∧ (j : Int) < t.byt.length := ⟨by omega, by omega⟩
        have e3 : iw .i64 ((j : Int) - e.pos) = j - e.pos := by
          rcases hin with h | h
          · rw [hp0 h]; rw [iw64] <;> omega
          · rw [iw64] <;> omega
        have same : (¬ (0 : Int) ≤ j - e.pos ∨ ¬ (j : Int) - e.pos < e.data.length) → c = b := fun h => by
          rcases hin with h0 | ⟨h0, h1⟩
          · have hd0 : e.data = [] := List.length_eq_zero_iff.1 h0
            have := hwg j (by rw [hd0, hp0 h0]; simp)
            rw [if_neg (by omega), hc2, hb] at this
            exact Option.some.inj this
          · have := hwg j (by omega)
            rw [if_neg (by omega), hc2, hb] at this
            exact Option.some.inj this
        rcases Decidable.em ((0 : Int) ≤ j - e.pos) with p0 | p0
        · rcases Decidable.em ((j : Int) - e.pos < e.data.length) with p1 | p1
          · obtain ⟨d, hd3⟩ := at_lt (l := e.data) (i := ((j : Int) - e.pos).toNat) (by omega)
            have hcd : c = d := by
              rcases hin with h0 | ⟨h0, h1⟩
              · omega
              · have := hwg j (by omega)
                rw [if_pos (by omega), hc2, show j - e.pos.toNat = ((j : Int) - e.pos).toNat by omega, hd3] at this
                exact Option.some.inj this
            subst hcd
            have g3 : (0 : Int) ≤ j - e.pos ∧ (j : Int) - e.pos < e.data.length := ⟨p0, p1⟩
            simp only [go_sem,Nat.reduceAdd,Nat.reduceSub,Nat.reduceMul,Nat.reduceEqDiff,Nat.reduceLeDiff,Nat.reduceLT,↓reduceIte,Int.reduceToNat,reduceCtorEq,Int.reduceLT,Int.reduceLE,Int.reduceGT,Int.reduceGE,Int.reduceEq,Int.reduceNe,Int.reduceNeg,Int.reduceAdd,Int.reduceSub,hb,List.getElem?_map,List.length_map,g1,Rg.cells,Eff.cells,Eff.cellsD,e3,ge_iff_le,eq_true p0,eq_true p1,hd3,g2,hc2,e2]
            exact hK3 (j + 1) _ _ (by omega) (by omega) (Wk.slots' rfl (by simp [wkS, Ch.get]))
          · obtain rfl := same (.inr p1)
            simp only [go_sem,Nat.reduceAdd,Nat.reduceSub,Nat.reduceMul,Nat.reduceEqDiff,Nat.reduceLeDiff,Nat.reduceLT,↓reduceIte,Int.reduceToNat,reduceCtorEq,Int.reduceLT,Int.reduceLE,Int.reduceGT,Int.reduceGE,Int.reduceEq,Int.reduceNe,Int.reduceNeg,Int.reduceAdd,Int.reduceSub,hb,List.getElem?_map,List.length_map,g1,Rg.cells,Eff.cells,Eff.cellsD,e3,ge_iff_le,eq_true p0,eq_false p1,g2,hc2,e2]
            exact hK3 (j + 1) _ _ (by omega) (by omega) (Wk.slots' rfl (by simp [wkS, Ch.get]))
        · obtain rfl := same (.inl p0)
          simp only [go_sem,Nat.reduceAdd,Nat.reduceSub,Nat.reduceMul,Nat.reduceEqDiff,Nat.reduceLeDiff,Nat.reduceLT,↓reduceIte,Int.reduceToNat,reduceCtorEq,Int.reduceLT,Int.reduceLE,Int.reduceGT,Int.reduceGE,Int.reduceEq,Int.reduceNe,Int.reduceNeg,Int.reduceAdd,Int.reduceSub,hb,List.getElem?_map,List.length_map,g1,Rg.cells,Eff.cells,Eff.cellsD,e3,ge_iff_le,eq_false p0,g2,hc2,e2]
          exact hK3 (j + 1) _ _ (by omega) (by omega) (Wk.slots' rfl (by simp [wkS, Ch.get]))
      · simp only [go_sem,Nat.reduceAdd,Nat.reduceSub,Nat.reduceMul,Nat.reduceEqDiff,Nat.reduceLeDiff,Nat.reduceLT,↓reduceIte,Int.reduceToNat,reduceCtorEq,Int.reduceLT,Int.reduceLE,Int.reduceGT,Int.reduceGE,Int.reduceEq,Int.reduceNe,Int.reduceNeg,Int.reduceAdd,Int.reduceSub,e1]
        exact hK (k + 1) _ _ (by omega) (by omega) (Wk.drop (m := 2) (by simp [wkS, Ch.get]) (by decide) (by simp) (by simp [chLt, AV.lt]) rfl (by simp [Blk.lt, ltL, AV.lt, Ins.cells, Rg.cells]))
end Go.Proofs.YtojfnagfafoiaaaDoor

set_option maxRecDepth 100000
set_option linter.unusedVariables false
set_option linter.unusedSimpArgs false
namespace Go.Proofs.YtojfnagfafoiaaaDoor.cpuStores
open Go.AM
open Go.ChangeShapes Go.WideShapes Go.ChangeAt Go.RowKit
abbrev laid : List (String × DataW Unit) := [("tapline/insn.kinds", Rows.laid_tapline_insn_kinds)]
theorem lifted (os : Os) (started : os.Started) (H : Type) (enc : TypeId × Value → H) :
    ReturnsInHanded {} Tryd.checked os 10 .any (fun w args => (Rows.cpuStoresSpec.pre enc Tryd.prog Tryd.f10 Rows.cpuStoresRow.domain false w args ∧ laidMetH Tryd.prog laid w) ∧ sizedMet enc Tryd.prog Tryd.f10 (OpenSpec.ofChange Rows.cpuStoresSpec) false w args)
      (Rows.cpuStoresSpec.post enc Tryd.prog Tryd.f10 false true false false) := by
  refine returnsInHanded_of_change_and (C := Tryd.checked) (X := fun w _ => laidMetH Tryd.prog laid w) (fun _ _ _ hh h => h.of_heap hh) own started (by kernel_rfl) Tryd.func10
    (ChangeSpec.witness_shaped (enc := enc) (C := Tryd.checked) (os := os) (X := fun w _ => laidMetH Tryd.prog laid w) false (World.laidAll Tryd.prog os laid) #[.agg #[.int .i64 0, .int .i64 0, .int .i64 0, .int .i64 0], .agg #[.slice none 0 0, .slice none 0 0, .int .i64 0, .int .i64 0, .int .i64 0, .int .i64 0, .int .i64 0, .int .i64 0, .int .i64 0, .int .i64 0, .int .i64 0]] 8 (World.laidAll_os _ _ _)
      (World.shaped_of_ZipB (by kernel_rfl) (by kernel_rfl)) (by kernel_rfl) (by kernel_rfl) (by kernel_rfl)
      (by rw [MakeChecks.laidMetH_plain _ _ _ (by kernel_rfl)]; exact laidMet_laidAll _ (by kernel_rfl) (by kernel_rfl))) ?_
  intro W base args ds gs before hval0 hW hcnd _ hL _
  have hval : ∀ (j : Nat) t v, Tryd.f10.params[j]? = some t → args[j]? = some v → Value.okWide Tryd.prog W .any base t v := hval0
  have hW' := hW
  obtain ⟨p, q, hA0, hV, rfl, hfz, hnd⟩ := hW'
  have hA : DataW.TrodAll enc Tryd.prog W 0 (fun _ => true) true Tryd.f10.params.toList args.toList ds p := hA0
  rw [Tryd.params10] at hA hval
  obtain ⟨v0, vs0, d0, ds0, p0, q0, hargs, rfl, rfl, h0, t0⟩ := trodAll_cons hA
  obtain ⟨v1, vs1, d1, ds1, p1, q1, rfl, rfl, rfl, h1, t1⟩ := trodAll_cons t0
  obtain ⟨rfl, rfl, rfl⟩ := trodAll_nil t1
  obtain rfl : args = #[v0, v1] := by cases args; simp_all
  obtain ⟨x0, g0⟩ := read_insn (hval 0 _ v0 rfl rfl) h0
  obtain ⟨s1, r1, g1, w1⟩ := read_place (hval 1 _ v1 rfl rfl) h1
  refine law_contract (CpuStores_c x0 s1 r1 w1) hW rfl rfl Tryd.underlying4 rfl lout ?_ (glok hL) (vrs_cons g0 (vrs_cons g1 vrs_nil))
  rw [Tryd.params10]
  exact rd_ok (by kernel_rfl)
theorem over : Rows.cpuStoresRow.holds Tryd.pinned (OpenSpec.ofChange Rows.cpuStoresSpec) :=
  OpenClaim.holds_of_wide 10 Tryd.f10 rfl rfl rfl rfl rfl rfl rfl ⟨rfl, rfl, rfl, rfl, rfl⟩ rfl rfl rfl rfl rfl (by kernel_rfl) Tryd.func10 (by kernel_rfl)
    (of_decide_eq_true (by kernel_rfl)) (by unfold Func.isWrapper; first | (rw [if_pos (by decide +kernel)]; kernel_rfl) | (rw [if_neg (by decide +kernel)]; exact ⟨rfl, rfl⟩))
    (fun os started H enc _ => lifted os started H enc)
end Go.Proofs.YtojfnagfafoiaaaDoor.cpuStores
namespace Go.Proofs.YtojfnagfafoiaaaDoor
open Go.ChangeShapes Go.WideShapes Go.ChangeAt Go.RowKit
theorem CpuStores_holds : Rows.CpuStoresCardSaid :=
  Claim7.holds_tied_plain_at .later [] [.data] true (true, "761dd2c4e361e325525882ee5ba11d7f08fc5ffec0876965a76a3878492cd312") true cpuStores.over (fun _ h => by cases h) (by kernel_rfl) (fun _ h => by cases h) cpuStores_row_tie rfl ⟨rfl, rfl⟩ (by kernel_rfl) rfl
    (fun f fn hf hfn => by
      obtain rfl : f = 10 := Option.some.inj ((show Tryd.prog.funcNamed "tapline/taplinelaw04.CpuStores" = some 10 by kernel_rfl).symm.trans hf) |>.symm
      obtain rfl : fn = Tryd.f10 := (Option.some.inj (Tryd.func10.symm.trans hfn)).symm
      exact ⟨by kernel_rfl, fun j t ht => by
        rw [Tryd.params10] at ht
        have hm : t ∈ [23, 49] := by simpa using Array.mem_of_getElem? ht
        have hall : ([23, 49].all fun u => !Tryd.prog.wantsStandIn u) = true := by kernel_rfl
        exact (show Tryd.prog.wantsStandIn t = false by simpa using List.all_eq_true.1 hall t hm)⟩)
    (by kernel_rfl)
end Go.Proofs.YtojfnagfafoiaaaDoor
