/- Sched: SchedHighest. No condition. -/
import Derived.Test.YtljepmbikbdicaaSD
set_option maxRecDepth 100000
set_option linter.unusedVariables false
set_option linter.unusedSimpArgs false
namespace Go.Proofs.Ytljepmbikbdicaa
open Go.AM
theorem highest_c (s : S) (n : Int) : ACalls Try.prog 3 [s.av, iv n] [] (fun o H => o = .ret (.bool true) ∧ H = []) := by
  refine ACalls.small fun hsm => ?_
  refine ACalls.up ?_
  refine ACalls.intro (cs := []) (n := 74) Try.func3 rfl rfl rfl (by kernel_rfl) rfl ?_
  have fin : ∀ H, Up 0 (fun (o : Out) (H : Heap) => o = Out.ret (.bool true) ∧ H = []) (.ret (.bool true)) H := fun H => up_bool ⟨rfl, rfl⟩
  generalize (fun (o : Out) (H : Heap) => o = Out.ret (.bool true) ∧ H = []) = post at fin ⊢
  simp only [go_sem, Nat.reduceAdd, Nat.reduceSub, Nat.reduceMul, Nat.reduceEqDiff, Nat.reduceLeDiff, Nat.reduceLT, ↓reduceIte, Int.reduceToNat, reduceCtorEq, S.av]
  refine rK_use (enters_of Try.func13 rfl (by decide)) (ACalls.pure_use (sane_c) rfl rfl) ?_
  simp only [go_sem, Nat.reduceAdd, Nat.reduceSub, Nat.reduceMul, Nat.reduceEqDiff, Nat.reduceLeDiff, Nat.reduceLT, ↓reduceIte, Int.reduceToNat, reduceCtorEq]
  refine Decidable.byCases (p := s.valid = true) (fun hv => ?_) (fun hv => ?_)
  rotate_left
  · refine rK_use (enters_of Try.func14 rfl (by decide)) (ACalls.pure_use (Switch_bad (S.not_valid hv)) rfl rfl) ?_
    simp only [go_sem, Nat.reduceAdd, Nat.reduceSub, Nat.reduceMul, Nat.reduceEqDiff, Nat.reduceLeDiff, Nat.reduceLT, ↓reduceIte, Int.reduceToNat, reduceCtorEq, Int.cast_ofNat_Int, Int.reduceLT, Int.reduceLE, Int.reduceGT, Int.reduceGE, Int.reduceEq, Int.reduceNe, Int.reduceNeg, Int.reduceAdd, Int.reduceSub, Int.le_refl, S.av]
    exact fin _
  have hok := (valid_iff s).1 hv
  cases hc : s.cp n with
  | none =>
    refine rK_use (enters_of Try.func14 rfl (by decide)) (ACalls.pure_use (Switch_none hv hc) rfl rfl) ?_
    simp only [go_sem, Nat.reduceAdd, Nat.reduceSub, Nat.reduceMul, Nat.reduceEqDiff, Nat.reduceLeDiff, Nat.reduceLT, ↓reduceIte, Int.reduceToNat, reduceCtorEq, Int.cast_ofNat_Int, Int.reduceLT, Int.reduceLE, Int.reduceGT, Int.reduceGE, Int.reduceEq, Int.reduceNe, Int.reduceNeg, Int.reduceAdd, Int.reduceSub, Int.le_refl, S.av]
    exact fin _
  | some q0 =>
    obtain ⟨i, rfl, hq0⟩ := S.cp_some hc
    have hlt0 : i < s.cpus.length := (List.getElem?_eq_some_iff.1 hq0).1
    obtain ⟨h1, h2, q, hq⟩ := hok.high hlt0
    have hsw := Switch_some hv hq0 hq
    generalize s.sw i = t at hsw h1 h2 hq
    have hlt : i < t.cpus.length := (List.getElem?_eq_some_iff.1 hq).1
    have hcalm := h1.calm hq h2
    have hrng := (h1.due_h hq)
    have hi2 : (i : Int) < t.cpus.length := by omega
    have hdue := Due_some ((valid_iff t).2 h1) hq
    rw [h2] at hdue
    refine rK_use (enters_of Try.func14 rfl (by decide)) (ACalls.pure_use (hsw) rfl rfl) ?_
    simp only [go_sem, Nat.reduceAdd, Nat.reduceSub, Nat.reduceMul, Nat.reduceEqDiff, Nat.reduceLeDiff, Nat.reduceLT, ↓reduceIte, Int.reduceToNat, reduceCtorEq, Int.cast_ofNat_Int, Int.reduceLT, Int.reduceLE, Int.reduceGT, Int.reduceGE, Int.reduceEq, Int.reduceNe, Int.reduceNeg, Int.reduceAdd, Int.reduceSub, Int.le_refl, S.av, List.length_map, List.getElem?_map, hq, hlt, hi2, Int.natCast_nonneg, true_and, Q.row]
    refine rK_use (enters_of Try.func15 rfl (by decide)) (ACalls.pure_use (hdue) rfl rfl) ?_
    simp only [go_sem, Nat.reduceAdd, Nat.reduceSub, Nat.reduceMul, Nat.reduceEqDiff, Nat.reduceLeDiff, Nat.reduceLT, ↓reduceIte, Int.reduceToNat, reduceCtorEq, Int.cast_ofNat_Int, Int.reduceLT, Int.reduceLE, Int.reduceGT, Int.reduceGE, Int.reduceEq, Int.reduceNe, Int.reduceNeg, Int.reduceAdd, Int.reduceSub, Int.le_refl]
    refine gD_dec (fun hr => ?_) (fun hr => ?_)
    · have he := hcalm.1 hr
      simp only [go_sem, Nat.reduceAdd, Nat.reduceSub, Nat.reduceMul, Nat.reduceEqDiff, Nat.reduceLeDiff, Nat.reduceLT, ↓reduceIte, Int.reduceToNat, reduceCtorEq, Int.cast_ofNat_Int, Int.reduceLT, Int.reduceLE, Int.reduceGT, Int.reduceGE, Int.reduceEq, Int.reduceNe, Int.reduceNeg, Int.reduceAdd, Int.reduceSub, Int.le_refl, hr, he, Bool.false_eq_true]
      refine loop_fam (fun _ : Unit => (((Ch.nil.put 9 (.ptr 2 0 0)).put 10 (iv 0)))) (fun _ => [.rows 3 [[.view false 3 (s.cpus.map Q.row), .view false 3 (s.thr.map T.row), iv s.quantum]], .rows 3 [[.view false 3 (t.cpus.map Q.row), .view false 3 (t.thr.map T.row), iv t.quantum]], .rows 3 [[iv (-1), iv q.left, .view false 1 []]]])
        (fun _ => 0) (fun _ => True) () (by kernel_rfl) trivial (Wk.slots' rfl (by simp [wkS, Ch.get])) ?_
      rintro _ _ K hK
      simp only [go_sem, Nat.reduceAdd, Nat.reduceSub, Nat.reduceMul, Nat.reduceEqDiff, Nat.reduceLeDiff, Nat.reduceLT, ↓reduceIte, Int.reduceToNat, reduceCtorEq, Int.cast_ofNat_Int, Int.reduceLT, Int.reduceLE, Int.reduceGT, Int.reduceGE, Int.reduceEq, Int.reduceNe, Int.reduceNeg, Int.reduceAdd, Int.reduceSub, Int.le_refl]
      exact fin _
    · simp only [go_sem, Nat.reduceAdd, Nat.reduceSub, Nat.reduceMul, Nat.reduceEqDiff, Nat.reduceLeDiff, Nat.reduceLT, ↓reduceIte, Int.reduceToNat, reduceCtorEq, Int.cast_ofNat_Int, Int.reduceLT, Int.reduceLE, Int.reduceGT, Int.reduceGE, Int.reduceEq, Int.reduceNe, Int.reduceNeg, Int.reduceAdd, Int.reduceSub, Int.le_refl, hr]
      refine loop_fam (fun k : Nat => ((((Ch.nil.put 6 (.ptr 1 0 0)).put 7 (iv q.run)).put 9 (.ptr 2 0 0)).put 10 (iv k))) (fun _ => [.rows 3 [[.view false 3 (s.cpus.map Q.row), .view false 3 (s.thr.map T.row), iv s.quantum]], .rows 3 [[.view false 3 (t.cpus.map Q.row), .view false 3 (t.thr.map T.row), iv t.quantum]], .rows 3 [[iv q.run, iv q.left, .view false 1 (q.ready.map r1)]]])
        (fun k => q.ready.length - k) (fun k => k ≤ q.ready.length) 0 (by kernel_rfl) (Nat.zero_le _) (Wk.slots' rfl (by simp [wkS, Ch.get])) ?_
      rintro k hk K hK
      simp only [go_sem, Nat.reduceAdd, Nat.reduceSub, Nat.reduceMul, Nat.reduceEqDiff, Nat.reduceLeDiff, Nat.reduceLT, ↓reduceIte, Int.reduceToNat, reduceCtorEq, Int.cast_ofNat_Int, Int.reduceLT, Int.reduceLE, Int.reduceGT, Int.reduceGE, Int.reduceEq, Int.reduceNe, Int.reduceNeg, Int.reduceAdd, Int.reduceSub, Int.le_refl, List.length_map]
      refine condD_dec (fun hg => ?_) (fun hg => ?_)
      · have hk' : k < q.ready.length := by omega
        obtain ⟨x, hx⟩ := at_lt hk'
        have hxm := List.mem_of_getElem? hx
        have hx0 := hrng.1 x hxm
        have hn0 := hrng.2.resolve_left hr
        have hle := hcalm.2 hr x hxm
        obtain ⟨tx, htx⟩ : ∃ z, t.thr[x.toNat]? = some z := at_lt (by omega)
        obtain ⟨tn, htn⟩ : ∃ z, t.thr[q.run.toNat]? = some z := at_lt (by omega)
        have hxl : x.toNat < t.thr.length := by omega
        have hnl : q.run.toNat < t.thr.length := by omega
        have hpx : t.pri x = tx.pri := by simp [S.pri, htx]
        have hpn : t.pri q.run = tn.pri := by simp [S.pri, htn]
        have hr16 := (h1.fit.r q (List.mem_of_getElem? hq))
        have e1 : iw .i64 ((k : Int) + 1) = ((k + 1 : Nat) : Int) := by rw [iw64] <;> omega
        rw [hpx, hpn] at hle
        simp only [go_sem, Nat.reduceAdd, Nat.reduceSub, Nat.reduceMul, Nat.reduceEqDiff, Nat.reduceLeDiff, Nat.reduceLT, ↓reduceIte, Int.reduceToNat, reduceCtorEq, Int.cast_ofNat_Int, Int.reduceLT, Int.reduceLE, Int.reduceGT, Int.reduceGE, Int.reduceEq, Int.reduceNe, Int.reduceNeg, Int.reduceAdd, Int.reduceSub, Int.le_refl]
        refine draw [.qu 0 0, .qu 0 0, .qu 0 0, .qu 0 0, .qu 0 0, .qu 0 0, .qu 0 0, .qu 0 0, .qu 0 0, .qu 0 0, .qu 0 0, .qu 0 0, .qu 0 0, .qu 0 0, .qu 0 0, .qu 0 0, .qu 0 0] (by kernel_rfl) (by kernel_rfl) ?_
        simp only [go_sem, Nat.reduceAdd, Nat.reduceSub, Nat.reduceMul, Nat.reduceEqDiff, Nat.reduceLeDiff, Nat.reduceLT, ↓reduceIte, Int.reduceToNat, reduceCtorEq, Int.cast_ofNat_Int, Int.reduceLT, Int.reduceLE, Int.reduceGT, Int.reduceGE, Int.reduceEq, Int.reduceNe, Int.reduceNeg, Int.reduceAdd, Int.reduceSub, Int.le_refl, List.length_map, List.getElem?_map, hx, hg, hk', Int.natCast_nonneg, hx0, hn0, htx, htn, hxl, hnl, T.row, e1]
        refine condD_dec (fun hgt => absurd hgt (by omega)) (fun _ => ?_)
        simp only [go_sem, Nat.reduceAdd, Nat.reduceSub, Nat.reduceMul, Nat.reduceEqDiff, Nat.reduceLeDiff, Nat.reduceLT, ↓reduceIte, Int.reduceToNat, reduceCtorEq, Int.cast_ofNat_Int, Int.reduceLT, Int.reduceLE, Int.reduceGT, Int.reduceGE, Int.reduceEq, Int.reduceNe, Int.reduceNeg, Int.reduceAdd, Int.reduceSub, Int.le_refl, e1]
        exact hK (k + 1) _ _ hk' (by omega) (Wk.slots' rfl (by simp [wkS, Ch.get]))
      · simp only [go_sem, Nat.reduceAdd, Nat.reduceSub, Nat.reduceMul, Nat.reduceEqDiff, Nat.reduceLeDiff, Nat.reduceLT, ↓reduceIte, Int.reduceToNat, reduceCtorEq, Int.cast_ofNat_Int, Int.reduceLT, Int.reduceLE, Int.reduceGT, Int.reduceGE, Int.reduceEq, Int.reduceNe, Int.reduceNeg, Int.reduceAdd, Int.reduceSub, Int.le_refl]
        exact fin _
end Go.Proofs.Ytljepmbikbdicaa

set_option maxRecDepth 100000
set_option linter.unusedVariables false
set_option linter.unusedSimpArgs false
namespace Go.Proofs.Ytljepmbikbdicaa.schedHighest
open Go.AM
open Go.ChangeShapes Go.WideShapes Go.ChangeAt Go.RowKit
theorem own : ownKnob Try.prog.godebug = none := by kernel_rfl
theorem lifted (os : Os) (started : os.Started) (H : Type) (enc : TypeId × Value → H) :
    ReturnsInHanded {} Try.checked os 3 .any (Rows.schedHighestSpec.pre6 enc Try.prog Try.f3 Rows.schedHighestRow.domain false) (Rows.schedHighestSpec.post enc Try.prog Try.f3 false true false false) := by
  refine returnsInHanded_of_change (C := Try.checked) own started (by kernel_rfl) Try.func3
    (ChangeSpec.witness6 (enc := enc) (C := Try.checked) false ⟨#[], #[.agg #[.slice none 0 0, .slice none 0 0, .int .i64 0], .int .i64 0], []⟩ 8 (by kernel_rfl) (by kernel_rfl) (by kernel_rfl) (by kernel_rfl)) ?_
  intro W base args ds gs before hval0 hW hcnd _
  have hval : ∀ (j : Nat) t v, Try.f3.params[j]? = some t → args[j]? = some v → Value.okWide Try.prog W .any base t v := hval0
  have hW' := hW
  obtain ⟨p, q, hA0, hV, rfl, hfz, hnd⟩ := hW'
  have hA : DataW.TrodAll enc Try.prog W 0 (fun _ => true) true Try.f3.params.toList args.toList ds p := hA0
  rw [Try.params3] at hA hval
  obtain ⟨v0, vs0, d0, ds0, p0, q0, hargs, rfl, rfl, h0, r0⟩ := trodAll_cons hA
  obtain ⟨v1, vs1, d1, ds1, p1, q1, rfl, rfl, rfl, h1, r1⟩ := trodAll_cons r0
  obtain ⟨rfl, rfl, rfl⟩ := trodAll_nil r1
  obtain rfl : args = #[v0, v1] := by cases args; simp_all
  obtain ⟨a0, g0⟩ := read_sched (hval 0 _ v0 rfl rfl) h0
  obtain ⟨a1, g1, w1⟩ := read_int (hval 1 _ v1 rfl rfl) h1
  refine law_contract (highest_c a0 a1) hW rfl rfl Try.underlying4 rfl lout ?_ (vrs_cons g0 (vrs_cons g1 vrs_nil))
  intro t ht
  rw [Try.params3] at ht
  simp only [List.mem_cons, List.not_mem_nil, or_false] at ht
  rcases ht with rfl | rfl
  · exact rd_sched
  · exact rd_int
theorem over : Rows.schedHighestRow.holds Try.pinned (OpenSpec.ofChange Rows.schedHighestSpec) :=
  OpenClaim.holds_of_wide 3 Try.f3 rfl rfl rfl rfl rfl rfl rfl ⟨rfl, rfl, rfl, rfl, rfl⟩ rfl rfl rfl rfl rfl (by kernel_rfl) Try.func3 (by kernel_rfl)
    (of_decide_eq_true (by kernel_rfl)) (by unfold Func.isWrapper; first | (rw [if_pos (by decide +kernel)]; kernel_rfl) | (rw [if_neg (by decide +kernel)]; exact ⟨rfl, rfl⟩))
    (fun os started H enc _ => lifted os started H enc)
end Go.Proofs.Ytljepmbikbdicaa.schedHighest
namespace Go.Proofs.Ytljepmbikbdicaa
theorem SchedHighest_holds : Rows.SchedHighestSaid := schedHighest.over
end Go.Proofs.Ytljepmbikbdicaa
