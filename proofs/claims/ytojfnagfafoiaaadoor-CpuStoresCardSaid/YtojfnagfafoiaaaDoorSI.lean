/- cpu: the statement CpuDecodes. No condition. -/
import Derived.Test.YtojfnagfafoiaaaDoorSH
set_option maxRecDepth 100000
set_option linter.unusedVariables false
set_option linter.unusedSimpArgs false
namespace Go.Proofs.YtojfnagfafoiaaaDoor
open Go.AM
theorem Dec.bare (d : Dec) : d.av.bare = true := rfl
theorem dec_lend (b : List UInt8) (hl : b.length ≤ 1000) {H : Heap} {r : Nat} (hr : H[r]? = some (.rows 1 (b.map rb))) :
    ACalls Tryd.prog 26 [.sl r 0 b.length none] H (fun o H2 => o = .ret (dec b).av ∧ H2 = H) := by
  have e4 : (b.map rb).take b.length = b.map rb := List.take_of_length_le (by simp)
  refine ACalls.lend r (Dec.bare _) hr (rb_pure _) (by simp [fzOkL, AV.fzOk]) (by simp [fzL, AV.fz, ltL, AV.lt]) ?_
  simp only [fzL, AV.fz, List.drop_zero, if_true, e4]
  exact decode_c b hl
theorem stE1 {s : Sp} (hs : s.ok) (r : Rg) : stE s r = step s r := if_pos hs
theorem chk0 {s : Sp} (hs : s.ok) : s.chk = 0 := if_pos hs
theorem chk1 {s : Sp} (hs : ¬ s.ok) : s.chk = 30 := if_neg hs
theorem ef_ok {x : Ins} {s : Sp} (hs : s.ok) (hx : x.ok) : ef x s = 0 := by unfold ef; rw [if_pos hs, if_pos hx]
theorem fet_zero (s : Sp) (pos : Int) (i : Nat) : s.fet pos 0 i = [] := rfl
theorem fet_succ (s : Sp) (pos : Int) (m i : Nat) : s.fet pos (m + 1) i = if s.has (iw .i64 (pos + i)) = true ∧ s.pm (iw .i64 (pos + i)) = 4 then (s.byt[(iw .i64 (pos + i)).toNat]?).getD 0 :: s.fet pos m (i + 1) else [] := rfl
theorem CpuDecodes_c (s : Sp) (r : Rg) (hr : r.wf) :
    ACalls Tryd.prog 5 [.agg (.view false 1 (s.perm.map r1) :: .view false 1 (s.byt.map rb) :: r.cells)] [] (fun o H => o = .ret (.bool true) ∧ H = []) := by
  refine ACalls.up ?_
  refine ACalls.intro (cs := []) (n := 115) Tryd.func5 rfl rfl rfl (by kernel_rfl) rfl ?_
  generalize hpost : (fun (o : Out) (H : Heap) => o = Out.ret (.bool true) ∧ H = []) = post
  have fin : ∀ H, Up 0 post (.ret (.bool true)) H := fun H => finv rfl (by rw [← hpost]; exact ⟨rfl, rfl⟩) H
  simp only [go_sem, Nat.reduceAdd, Nat.reduceSub, Nat.reduceMul, Nat.reduceEqDiff, Nat.reduceLeDiff, Nat.reduceLT, ↓reduceIte, Int.reduceToNat, reduceCtorEq, Int.cast_ofNat_Int, Int.reduceLT, Int.reduceLE, Int.reduceGT, Int.reduceGE, Int.reduceEq, Int.reduceNe, Int.reduceNeg, Int.reduceAdd, Int.reduceSub, Int.le_refl, Rg.cells]
  refine rK_use (enters_of Tryd.func16 rfl (by decide)) (ACalls.pure_use (sane_c) rfl rfl) ?_
  simp only [go_sem, Nat.reduceAdd, Nat.reduceSub, Nat.reduceMul, Nat.reduceEqDiff, Nat.reduceLeDiff, Nat.reduceLT, ↓reduceIte, Int.reduceToNat, reduceCtorEq, Int.cast_ofNat_Int, Int.reduceLT, Int.reduceLE, Int.reduceGT, Int.reduceGE, Int.reduceEq, Int.reduceNe, Int.reduceNeg, Int.reduceAdd, Int.reduceSub, Int.le_refl]
  refine rK_use (enters_of Tryd.func18 rfl (by decide)) (ACalls.pure_use (Step_a s r hr) rfl (by simp [AV.lt, ltL, Eff.av_lt])) ?_
  by_cases hs : s.ok
  rotate_left
  · rw [chk1 hs]
    simp only [go_sem, Nat.reduceAdd, Nat.reduceSub, Nat.reduceMul, Nat.reduceEqDiff, Nat.reduceLeDiff, Nat.reduceLT, ↓reduceIte, Int.reduceToNat, reduceCtorEq, Int.cast_ofNat_Int, Int.reduceLT, Int.reduceLE, Int.reduceGT, Int.reduceGE, Int.reduceEq, Int.reduceNe, Int.reduceNeg, Int.reduceAdd, Int.reduceSub, Int.le_refl, Eff.av, Eff.cells, Eff.cellsD]
    exact fin _
  rw [chk0 hs, stE1 hs]
  obtain ⟨e, he⟩ : ∃ e, step s r = e := ⟨_, rfl⟩
  rw [he]
  unfold step at he
  simp only [go_sem, Nat.reduceAdd, Nat.reduceSub, Nat.reduceMul, Nat.reduceEqDiff, Nat.reduceLeDiff, Nat.reduceLT, ↓reduceIte, Int.reduceToNat, reduceCtorEq, Int.cast_ofNat_Int, Int.reduceLT, Int.reduceLE, Int.reduceGT, Int.reduceGE, Int.reduceEq, Int.reduceNe, Int.reduceNeg, Int.reduceAdd, Int.reduceSub, Int.le_refl, Eff.av, Eff.cells, Eff.cellsD]
  refine loop_fam (fun x : Nat × List UInt8 => (((((Ch.nil.put 1 (.ptr 0 0 0)).put 3 (.bool true)).put 4 (.ptr 1 0 0)).put 6 (.sl 2 0 x.2.length none)).put 7 (iv (iw .i64 (r.pc + x.1)))))
    (fun x => [.rows 11 [[.view false 1 (s.perm.map r1), .view false 1 (s.byt.map rb), iv r.r0, iv r.r1, iv r.r2, iv r.r3, iv r.r4, iv r.r5, iv r.r6, iv r.r7, iv r.pc]],
      .rows 19 [e.cells], .rows 1 (x.2.map rb)])
    (fun x => 12 - x.1) (fun x => x.1 ≤ 12 ∧ x.2.length = x.1 ∧ s.fet r.pc 12 0 = x.2 ++ s.fet r.pc (12 - x.1) x.1) (0, []) (by kernel_rfl) ⟨Nat.zero_le _, by simp, by simp⟩ ?_ ?_
  · have e0 : iw .i64 (r.pc + (0 : Nat)) = r.pc := by have := hr.pc; unfold I64 at this; rw [iw64] <;> omega
    exact (Wk.slots (s' := (((((Ch.nil.put 1 (.ptr 0 0 0)).put 3 (.bool true)).put 4 (.ptr 1 0 0)).put 6 (.view true 0 [])).put 7 (iv (iw .i64 (r.pc + (0 : Nat)))))) (by rw [e0]; simp [wkS, Ch.get])).trans
      ((Wk.ghost (.rows 1 [])).trans (Wk.le (.cons _ (.cons _ (LeC.refl _) (.sl0 0 2 0)) (.refl _)) (LeH.refl _)))
  rintro ⟨i, acc⟩ ⟨hi, hacc, ha⟩ K hK
  simp only at hi hacc ha
  have fend : ¬ (s.has (iw .i64 (r.pc + i)) = true ∧ acc.length < 12 ∧ s.pm (iw .i64 (r.pc + i)) = 4) → s.fet r.pc 12 0 = acc := fun h => by
    rcases Nat.eq_or_lt_of_le hi with rfl | hlt
    · rw [Nat.sub_self, fet_zero, List.append_nil] at ha; exact ha
    · obtain ⟨m, hm⟩ : ∃ m, 12 - i = m + 1 := ⟨12 - i - 1, by omega⟩
      rw [hm, fet_succ s r.pc m i, if_neg (fun h2 => h ⟨h2.1, by omega, h2.2⟩), List.append_nil] at ha
      exact ha
  have hnext : iw .i64 (iw .i64 (r.pc + i) + 1) = iw .i64 (r.pc + (i + 1 : Nat)) := iw_congr (by rw [iwi64]; omega)
  generalize hx : iw .i64 (r.pc + i) = x at *
  rcases Decidable.em (0 ≤ x) with c1 | c1
  rotate_left
  · have hb := fend (fun h => c1 (by have := h.1; simp [Sp.has] at this; omega))
    simp only [go_sem, Nat.reduceAdd, Nat.reduceSub, Nat.reduceMul, Nat.reduceEqDiff, Nat.reduceLeDiff, Nat.reduceLT, ↓reduceIte, Int.reduceToNat, reduceCtorEq, Int.cast_ofNat_Int, Int.reduceLT, Int.reduceLE, Int.reduceGT, Int.reduceGE, Int.reduceEq, Int.reduceNe, Int.reduceNeg, Int.reduceAdd, Int.reduceSub, Int.le_refl, Eff.cells, Eff.cellsD, c1, ge_iff_le]
    rw [hb] at he
    refine rK_use (enters_of Tryd.func26 rfl (by decide)) (dec_lend acc (by omega) rfl) ?_
    rcases dec_e acc with h | h | h
    · rw [if_pos h] at he
      simp only [go_sem, Nat.reduceAdd, Nat.reduceSub, Nat.reduceMul, Nat.reduceEqDiff, Nat.reduceLeDiff, Nat.reduceLT, ↓reduceIte, Int.reduceToNat, reduceCtorEq, Int.cast_ofNat_Int, Int.reduceLT, Int.reduceLE, Int.reduceGT, Int.reduceGE, Int.reduceEq, Int.reduceNe, Int.reduceNeg, Int.reduceAdd, Int.reduceSub, Int.le_refl, Dec.av, h, Ins.av, Ins.cells]
      refine rK_use (enters_of Tryd.func17 rfl (by decide)) (ACalls.pure_use (Exec_a (dec acc).x s r hr) rfl (by simp [AV.lt, ltL, Eff.av_lt])) ?_
      rw [exE0 (ef_ok hs (dec_ok h)), ef_ok hs (dec_ok h), he]
      simp only [go_sem, Nat.reduceAdd, Nat.reduceSub, Nat.reduceMul, Nat.reduceEqDiff, Nat.reduceLeDiff, Nat.reduceLT, ↓reduceIte, Int.reduceToNat, reduceCtorEq, Int.cast_ofNat_Int, Int.reduceLT, Int.reduceLE, Int.reduceGT, Int.reduceGE, Int.reduceEq, Int.reduceNe, Int.reduceNeg, Int.reduceAdd, Int.reduceSub, Int.le_refl, Eff.av, Eff.cells, Eff.cellsD]
      have hS := Same_c e e
      rw [sameE_self] at hS
      refine rK_use (enters_of Tryd.func25 rfl (by decide)) (ACalls.pure_use hS rfl rfl) ?_
      simp only [go_sem, Nat.reduceAdd, Nat.reduceSub, Nat.reduceMul, Nat.reduceEqDiff, Nat.reduceLeDiff, Nat.reduceLT, ↓reduceIte, Int.reduceToNat, reduceCtorEq, Int.cast_ofNat_Int, Int.reduceLT, Int.reduceLE, Int.reduceGT, Int.reduceGE, Int.reduceEq, Int.reduceNe, Int.reduceNeg, Int.reduceAdd, Int.reduceSub, Int.le_refl]
      exact fin _
    · rw [h, if_neg (by decide), if_neg (by decide)] at he
      subst he
      simp only [go_sem, Nat.reduceAdd, Nat.reduceSub, Nat.reduceMul, Nat.reduceEqDiff, Nat.reduceLeDiff, Nat.reduceLT, ↓reduceIte, Int.reduceToNat, reduceCtorEq, Int.cast_ofNat_Int, Int.reduceLT, Int.reduceLE, Int.reduceGT, Int.reduceGE, Int.reduceEq, Int.reduceNe, Int.reduceNeg, Int.reduceAdd, Int.reduceSub, Int.le_refl, Dec.av, h, Ins.av, Ins.cells, x0]
      exact fin _
    · rw [h, if_neg (by decide), if_pos rfl] at he
      subst he
      simp only [go_sem, Nat.reduceAdd, Nat.reduceSub, Nat.reduceMul, Nat.reduceEqDiff, Nat.reduceLeDiff, Nat.reduceLT, ↓reduceIte, Int.reduceToNat, reduceCtorEq, Int.cast_ofNat_Int, Int.reduceLT, Int.reduceLE, Int.reduceGT, Int.reduceGE, Int.reduceEq, Int.reduceNe, Int.reduceNeg, Int.reduceAdd, Int.reduceSub, Int.le_refl, Dec.av, h, Ins.av, Ins.cells, x0]
      exact fin _
  rcases Decidable.em (x < s.byt.length) with c2 | c2
  rotate_left
  · have hb := fend (fun h => c2 (by have := h.1; simp [Sp.has] at this; omega))
    simp only [go_sem, Nat.reduceAdd, Nat.reduceSub, Nat.reduceMul, Nat.reduceEqDiff, Nat.reduceLeDiff, Nat.reduceLT, ↓reduceIte, Int.reduceToNat, reduceCtorEq, Int.cast_ofNat_Int, Int.reduceLT, Int.reduceLE, Int.reduceGT, Int.reduceGE, Int.reduceEq, Int.reduceNe, Int.reduceNeg, Int.reduceAdd, Int.reduceSub, Int.le_refl, Eff.cells, Eff.cellsD, c1, c2, ge_iff_le, List.length_map]
    rw [hb] at he
    refine rK_use (enters_of Tryd.func26 rfl (by decide)) (dec_lend acc (by omega) rfl) ?_
    rcases dec_e acc with h | h | h
    · rw [if_pos h] at he
      simp only [go_sem, Nat.reduceAdd, Nat.reduceSub, Nat.reduceMul, Nat.reduceEqDiff, Nat.reduceLeDiff, Nat.reduceLT, ↓reduceIte, Int.reduceToNat, reduceCtorEq, Int.cast_ofNat_Int, Int.reduceLT, Int.reduceLE, Int.reduceGT, Int.reduceGE, Int.reduceEq, Int.reduceNe, Int.reduceNeg, Int.reduceAdd, Int.reduceSub, Int.le_refl, Dec.av, h, Ins.av, Ins.cells]
      refine rK_use (enters_of Tryd.func17 rfl (by decide)) (ACalls.pure_use (Exec_a (dec acc).x s r hr) rfl (by simp [AV.lt, ltL, Eff.av_lt])) ?_
      rw [exE0 (ef_ok hs (dec_ok h)), ef_ok hs (dec_ok h), he]
      simp only [go_sem, Nat.reduceAdd, Nat.reduceSub, Nat.reduceMul, Nat.reduceEqDiff, Nat.reduceLeDiff, Nat.reduceLT, ↓reduceIte, Int.reduceToNat, reduceCtorEq, Int.cast_ofNat_Int, Int.reduceLT, Int.reduceLE, Int.reduceGT, Int.reduceGE, Int.reduceEq, Int.reduceNe, Int.reduceNeg, Int.reduceAdd, Int.reduceSub, Int.le_refl, Eff.av, Eff.cells, Eff.cellsD]
      have hS := Same_c e e
      rw [sameE_self] at hS
      refine rK_use (enters_of Tryd.func25 rfl (by decide)) (ACalls.pure_use hS rfl rfl) ?_
      simp only [go_sem, Nat.reduceAdd, Nat.reduceSub, Nat.reduceMul, Nat.reduceEqDiff, Nat.reduceLeDiff, Nat.reduceLT, ↓reduceIte, Int.reduceToNat, reduceCtorEq, Int.cast_ofNat_Int, Int.reduceLT, Int.reduceLE, Int.reduceGT, Int.reduceGE, Int.reduceEq, Int.reduceNe, Int.reduceNeg, Int.reduceAdd, Int.reduceSub, Int.le_refl]
      exact fin _
    · rw [h, if_neg (by decide), if_neg (by decide)] at he
      subst he
      simp only [go_sem, Nat.reduceAdd, Nat.reduceSub, Nat.reduceMul, Nat.reduceEqDiff, Nat.reduceLeDiff, Nat.reduceLT, ↓reduceIte, Int.reduceToNat, reduceCtorEq, Int.cast_ofNat_Int, Int.reduceLT, Int.reduceLE, Int.reduceGT, Int.reduceGE, Int.reduceEq, Int.reduceNe, Int.reduceNeg, Int.reduceAdd, Int.reduceSub, Int.le_refl, Dec.av, h, Ins.av, Ins.cells, x0]
      exact fin _
    · rw [h, if_neg (by decide), if_pos rfl] at he
      subst he
      simp only [go_sem, Nat.reduceAdd, Nat.reduceSub, Nat.reduceMul, Nat.reduceEqDiff, Nat.reduceLeDiff, Nat.reduceLT, ↓reduceIte, Int.reduceToNat, reduceCtorEq, Int.cast_ofNat_Int, Int.reduceLT, Int.reduceLE, Int.reduceGT, Int.reduceGE, Int.reduceEq, Int.reduceNe, Int.reduceNeg, Int.reduceAdd, Int.reduceSub, Int.le_refl, Dec.av, h, Ins.av, Ins.cells, x0]
      exact fin _
  have hh : s.has x = true := by simp [Sp.has, c1, c2]
  rcases Decidable.em ((acc.length : Int) < 12) with c3 | c3
  rotate_left
  · have hb := fend (fun h => c3 (by have := h.2.1; omega))
    simp only [go_sem, Nat.reduceAdd, Nat.reduceSub, Nat.reduceMul, Nat.reduceEqDiff, Nat.reduceLeDiff, Nat.reduceLT, ↓reduceIte, Int.reduceToNat, reduceCtorEq, Int.cast_ofNat_Int, Int.reduceLT, Int.reduceLE, Int.reduceGT, Int.reduceGE, Int.reduceEq, Int.reduceNe, Int.reduceNeg, Int.reduceAdd, Int.reduceSub, Int.le_refl, Eff.cells, Eff.cellsD, c1, c2, c3, ge_iff_le, List.length_map]
    rw [hb] at he
    refine rK_use (enters_of Tryd.func26 rfl (by decide)) (dec_lend acc (by omega) rfl) ?_
    rcases dec_e acc with h | h | h
    · rw [if_pos h] at he
      simp only [go_sem, Nat.reduceAdd, Nat.reduceSub, Nat.reduceMul, Nat.reduceEqDiff, Nat.reduceLeDiff, Nat.reduceLT, ↓reduceIte, Int.reduceToNat, reduceCtorEq, Int.cast_ofNat_Int, Int.reduceLT, Int.reduceLE, Int.reduceGT, Int.reduceGE, Int.reduceEq, Int.reduceNe, Int.reduceNeg, Int.reduceAdd, Int.reduceSub, Int.le_refl, Dec.av, h, Ins.av, Ins.cells]
      refine rK_use (enters_of Tryd.func17 rfl (by decide)) (ACalls.pure_use (Exec_a (dec acc).x s r hr) rfl (by simp [AV.lt, ltL, Eff.av_lt])) ?_
      rw [exE0 (ef_ok hs (dec_ok h)), ef_ok hs (dec_ok h), he]
      simp only [go_sem, Nat.reduceAdd, Nat.reduceSub, Nat.reduceMul, Nat.reduceEqDiff, Nat.reduceLeDiff, Nat.reduceLT, ↓reduceIte, Int.reduceToNat, reduceCtorEq, Int.cast_ofNat_Int, Int.reduceLT, Int.reduceLE, Int.reduceGT, Int.reduceGE, Int.reduceEq, Int.reduceNe, Int.reduceNeg, Int.reduceAdd, Int.reduceSub, Int.le_refl, Eff.av, Eff.cells, Eff.cellsD]
      have hS := Same_c e e
      rw [sameE_self] at hS
      refine rK_use (enters_of Tryd.func25 rfl (by decide)) (ACalls.pure_use hS rfl rfl) ?_
      simp only [go_sem, Nat.reduceAdd, Nat.reduceSub, Nat.reduceMul, Nat.reduceEqDiff, Nat.reduceLeDiff, Nat.reduceLT, ↓reduceIte, Int.reduceToNat, reduceCtorEq, Int.cast_ofNat_Int, Int.reduceLT, Int.reduceLE, Int.reduceGT, Int.reduceGE, Int.reduceEq, Int.reduceNe, Int.reduceNeg, Int.reduceAdd, Int.reduceSub, Int.le_refl]
      exact fin _
    · rw [h, if_neg (by decide), if_neg (by decide)] at he
      subst he
      simp only [go_sem, Nat.reduceAdd, Nat.reduceSub, Nat.reduceMul, Nat.reduceEqDiff, Nat.reduceLeDiff, Nat.reduceLT, ↓reduceIte, Int.reduceToNat, reduceCtorEq, Int.cast_ofNat_Int, Int.reduceLT, Int.reduceLE, Int.reduceGT, Int.reduceGE, Int.reduceEq, Int.reduceNe, Int.reduceNeg, Int.reduceAdd, Int.reduceSub, Int.le_refl, Dec.av, h, Ins.av, Ins.cells, x0]
      exact fin _
    · rw [h, if_neg (by decide), if_pos rfl] at he
      subst he
      simp only [go_sem, Nat.reduceAdd, Nat.reduceSub, Nat.reduceMul, Nat.reduceEqDiff, Nat.reduceLeDiff, Nat.reduceLT, ↓reduceIte, Int.reduceToNat, reduceCtorEq, Int.cast_ofNat_Int, Int.reduceLT, Int.reduceLE, Int.reduceGT, Int.reduceGE, Int.reduceEq, Int.reduceNe, Int.reduceNeg, Int.reduceAdd, Int.reduceSub, Int.le_refl, Dec.av, h, Ins.av, Ins.cells, x0]
      exact fin _
  obtain ⟨p, k1, k2, k3, k4, k5⟩ := Sp.pm_at hs hh
  obtain ⟨b, b1, b2, b3⟩ := Sp.byt_at hh
  have h6 := hs.p32
  have e2 : iw .i64 (x.tdiv 64) = x.tdiv 64 := iw64 (by omega) (by omega)
  rcases Decidable.em (p = 4) with c4 | c4
  rotate_left
  · have hb := fend (fun h => c4 (k2 ▸ h.2.2))
    simp only [go_sem, Nat.reduceAdd, Nat.reduceSub, Nat.reduceMul, Nat.reduceEqDiff, Nat.reduceLeDiff, Nat.reduceLT, ↓reduceIte, Int.reduceToNat, reduceCtorEq, Int.cast_ofNat_Int, Int.reduceLT, Int.reduceLE, Int.reduceGT, Int.reduceGE, Int.reduceEq, Int.reduceNe, Int.reduceNeg, Int.reduceAdd, Int.reduceSub, Int.le_refl, Eff.cells, Eff.cellsD, c1, c2, c3, ge_iff_le, List.length_map, List.getElem?_map, k1, k4, k5, e2, c4]
    rw [hb] at he
    refine rK_use (enters_of Tryd.func26 rfl (by decide)) (dec_lend acc (by omega) rfl) ?_
    rcases dec_e acc with h | h | h
    · rw [if_pos h] at he
      simp only [go_sem, Nat.reduceAdd, Nat.reduceSub, Nat.reduceMul, Nat.reduceEqDiff, Nat.reduceLeDiff, Nat.reduceLT, ↓reduceIte, Int.reduceToNat, reduceCtorEq, Int.cast_ofNat_Int, Int.reduceLT, Int.reduceLE, Int.reduceGT, Int.reduceGE, Int.reduceEq, Int.reduceNe, Int.reduceNeg, Int.reduceAdd, Int.reduceSub, Int.le_refl, Dec.av, h, Ins.av, Ins.cells]
      refine rK_use (enters_of Tryd.func17 rfl (by decide)) (ACalls.pure_use (Exec_a (dec acc).x s r hr) rfl (by simp [AV.lt, ltL, Eff.av_lt])) ?_
      rw [exE0 (ef_ok hs (dec_ok h)), ef_ok hs (dec_ok h), he]
      simp only [go_sem, Nat.reduceAdd, Nat.reduceSub, Nat.reduceMul, Nat.reduceEqDiff, Nat.reduceLeDiff, Nat.reduceLT, ↓reduceIte, Int.reduceToNat, reduceCtorEq, Int.cast_ofNat_Int, Int.reduceLT, Int.reduceLE, Int.reduceGT, Int.reduceGE, Int.reduceEq, Int.reduceNe, Int.reduceNeg, Int.reduceAdd, Int.reduceSub, Int.le_refl, Eff.av, Eff.cells, Eff.cellsD]
      have hS := Same_c e e
      rw [sameE_self] at hS
      refine rK_use (enters_of Tryd.func25 rfl (by decide)) (ACalls.pure_use hS rfl rfl) ?_
      simp only [go_sem, Nat.reduceAdd, Nat.reduceSub, Nat.reduceMul, Nat.reduceEqDiff, Nat.reduceLeDiff, Nat.reduceLT, ↓reduceIte, Int.reduceToNat, reduceCtorEq, Int.cast_ofNat_Int, Int.reduceLT, Int.reduceLE, Int.reduceGT, Int.reduceGE, Int.reduceEq, Int.reduceNe, Int.reduceNeg, Int.reduceAdd, Int.reduceSub, Int.le_refl]
      exact fin _
    · rw [h, if_neg (by decide), if_neg (by decide)] at he
      subst he
      simp only [go_sem, Nat.reduceAdd, Nat.reduceSub, Nat.reduceMul, Nat.reduceEqDiff, Nat.reduceLeDiff, Nat.reduceLT, ↓reduceIte, Int.reduceToNat, reduceCtorEq, Int.cast_ofNat_Int, Int.reduceLT, Int.reduceLE, Int.reduceGT, Int.reduceGE, Int.reduceEq, Int.reduceNe, Int.reduceNeg, Int.reduceAdd, Int.reduceSub, Int.le_refl, Dec.av, h, Ins.av, Ins.cells, x0]
      exact fin _
    · rw [h, if_neg (by decide), if_pos rfl] at he
      subst he
      simp only [go_sem, Nat.reduceAdd, Nat.reduceSub, Nat.reduceMul, Nat.reduceEqDiff, Nat.reduceLeDiff, Nat.reduceLT, ↓reduceIte, Int.reduceToNat, reduceCtorEq, Int.cast_ofNat_Int, Int.reduceLT, Int.reduceLE, Int.reduceGT, Int.reduceGE, Int.reduceEq, Int.reduceNe, Int.reduceNeg, Int.reduceAdd, Int.reduceSub, Int.le_refl, Dec.av, h, Ins.av, Ins.cells, x0]
      exact fin _
  have e4 : (acc.map rb).take acc.length = acc.map rb := List.take_of_length_le (by simp)
  have e5 : acc.length + 1 ≤ 68719476736 := by omega
  obtain ⟨m, hm⟩ : ∃ m, 12 - i = m + 1 := ⟨12 - i - 1, by omega⟩
  simp only [go_sem, Nat.reduceAdd, Nat.reduceSub, Nat.reduceMul, Nat.reduceEqDiff, Nat.reduceLeDiff, Nat.reduceLT, ↓reduceIte, Int.reduceToNat, reduceCtorEq, Int.cast_ofNat_Int, Int.reduceLT, Int.reduceLE, Int.reduceGT, Int.reduceGE, Int.reduceEq, Int.reduceNe, Int.reduceNeg, Int.reduceAdd, Int.reduceSub, Int.le_refl, Eff.cells, Eff.cellsD, c1, c2, c3, ge_iff_le, List.length_map, List.getElem?_map, k1, k4, k5, e2, eq_true c4, b1, b2, b3, e4, e5, hnext]
  refine hK (i + 1, acc ++ [b]) _ _ ⟨by dsimp only; omega, by simp; omega, ?_⟩ (by dsimp only; omega)
    (Wk.push (A := [.rows 11 [[.view false 1 (s.perm.map r1), .view false 1 (s.byt.map rb), iv r.r0, iv r.r1, iv r.r2, iv r.r3, iv r.r4, iv r.r5, iv r.r6, iv r.r7, iv r.pc]], .rows 19 [e.cells]]) (b := .rows 1 ((acc ++ [b]).map rb)) 4 rfl (by simp) (by simp) (by simp [Blk.lt, ltL, AV.lt, Eff.cells, Eff.cellsD]) (blt0 (rb_lt0 _)) (by simp) (by simp [wkP, Ch.get, AV.ren, pu_lt, pu_eq]))
  dsimp only
  rw [ha, hm, fet_succ s r.pc m i, hx, if_pos ⟨hh, by rw [k2, c4]⟩, b1, show 12 - (i + 1) = m by omega]
  simp
end Go.Proofs.YtojfnagfafoiaaaDoor
