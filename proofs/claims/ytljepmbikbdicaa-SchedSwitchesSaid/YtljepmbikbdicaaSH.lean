/- Sched: the reference's due, switch, steal, new. No condition. -/
import Derived.Test.YtljepmbikbdicaaSG
import Derived.Test.YtljepmbikbdicaaSF
import Derived.Test.YtljepmbikbdicaaSC
import Derived.Test.YtljepmbikbdicaaSE
set_option maxRecDepth 100000
set_option linter.unusedVariables false
set_option linter.unusedSimpArgs false
namespace Go.Proofs.Ytljepmbikbdicaa
open Go.AM
theorem below_setSt (s : S) (i : Nat) (st p : Int) (f : Bool) : (s.setSt i st).below p f = s.below p f := by
  funext x
  have : (s.setSt i st).pri x = s.pri x := by
    unfold S.setSt
    split
    · rfl
    · rename_i t ht
      exact S.pri_st ht x
  simp only [S.below, this]
/-- Into the queue: the state, and the place. -/
theorem put_enq (s : S) (i : Nat) (f : Bool) (t : T) (q : Q) (ht : s.thr[i]? = some t) (hq : s.cpus[t.cpu.toNat]? = some q) : s.put i f = (s.setSt i 1).enq i f := by
  have hl := (List.getElem?_eq_some_iff.1 ht).1
  have e0 := S.setSt_eq ht 1
  have ht1 : (s.setSt i 1).thr[i]? = some { t with st := 1 } := by rw [e0]; simp [hl]
  have hq1 : (s.setSt i 1).cpus[t.cpu.toNat]? = some q := by rw [e0]; exact hq
  rw [S.put_eq ht hq, insP_eq]
  simp only [S.enq, ht1, hq1, below_setSt]
  rw [e0]
  rfl
theorem DueR_c (s : S) (n : Int) : ACalls Try.prog 32 [s.av, iv n] [] (fun o H => o = .ret (.bool (s.rDue n)) ∧ H = []) := by
  refine ACalls.up ?_
  refine ACalls.intro (cs := []) (n := 64) Try.func32 rfl rfl rfl (by kernel_rfl) rfl ?_
  generalize hpost : (fun (o : Out) (H : Heap) => o = Out.ret (.bool (s.rDue n)) ∧ H = []) = post
  have fin : ∀ b H, b = s.rDue n → Up 0 post (.ret (.bool b)) H := fun b H e => fin_b (by rw [← hpost, e]; exact ⟨rfl, rfl⟩) H
  simp only [go_sem, Nat.reduceAdd, Nat.reduceSub, Nat.reduceMul, Nat.reduceEqDiff, Nat.reduceLeDiff, Nat.reduceLT, ↓reduceIte, Int.reduceToNat, reduceCtorEq, Int.cast_ofNat_Int, Int.reduceLT, Int.reduceLE, Int.reduceGT, Int.reduceGE, Int.reduceEq, Int.reduceNe, Int.reduceNeg, Int.reduceAdd, Int.reduceSub, Int.le_refl, S.av]
  refine rK_use (enters_of Try.func30 rfl (by decide)) (ACalls.pure_use (Check_r s) rfl rfl) ?_
  rcases Decidable.em (s.valid = true) with hv | hv
  rotate_left
  · rw [if_neg hv]
    simp only [go_sem, Nat.reduceAdd, Nat.reduceSub, Nat.reduceMul, Nat.reduceEqDiff, Nat.reduceLeDiff, Nat.reduceLT, ↓reduceIte, Int.reduceToNat, reduceCtorEq, Int.cast_ofNat_Int, Int.reduceLT, Int.reduceLE, Int.reduceGT, Int.reduceGE, Int.reduceEq, Int.reduceNe, Int.reduceNeg, Int.reduceAdd, Int.reduceSub, Int.le_refl]
    exact fin _ _ (by rw [S.rDue, if_neg hv])
  rw [if_pos hv]
  have hok := (valid_iff s).1 hv
  simp only [go_sem, Nat.reduceAdd, Nat.reduceSub, Nat.reduceMul, Nat.reduceEqDiff, Nat.reduceLeDiff, Nat.reduceLT, ↓reduceIte, Int.reduceToNat, reduceCtorEq, Int.cast_ofNat_Int, Int.reduceLT, Int.reduceLE, Int.reduceGT, Int.reduceGE, Int.reduceEq, Int.reduceNe, Int.reduceNeg, Int.reduceAdd, Int.reduceSub, Int.le_refl]
  refine rK_use (enters_of Try.func69 rfl (by decide)) (ACalls.pure_use (cpu_r s n) rfl rfl) ?_
  rcases Decidable.em (0 ≤ n ∧ n < s.cpus.length) with a1 | a1
  rotate_left
  · rw [decide_eq_false a1]
    simp only [go_sem, Nat.reduceAdd, Nat.reduceSub, Nat.reduceMul, Nat.reduceEqDiff, Nat.reduceLeDiff, Nat.reduceLT, ↓reduceIte, Int.reduceToNat, reduceCtorEq, Int.cast_ofNat_Int, Int.reduceLT, Int.reduceLE, Int.reduceGT, Int.reduceGE, Int.reduceEq, Int.reduceNe, Int.reduceNeg, Int.reduceAdd, Int.reduceSub, Int.le_refl]
    refine fin _ _ ?_
    have : s.cp n = none := by
      unfold S.cp
      split
      · rw [List.getElem?_eq_none_iff]; omega
      · rfl
    rw [S.rDue, if_pos hv, this]; rfl
  rw [decide_eq_true a1]
  obtain ⟨c, rfl⟩ : ∃ c : Nat, n = c := ⟨n.toNat, by omega⟩
  have hcl : c < s.cpus.length := by omega
  have hcl2 : (c : Int) < s.cpus.length := by omega
  obtain ⟨q, hq⟩ := at_lt hcl
  have hrng := hok.due_h hq
  have hr : s.rDue c = s.due c := by rw [S.rDue, if_pos hv, cp_nat, hq]; simp
  rw [S.due_eq hq] at hr
  simp only [go_sem, Nat.reduceAdd, Nat.reduceSub, Nat.reduceMul, Nat.reduceEqDiff, Nat.reduceLeDiff, Nat.reduceLT, ↓reduceIte, Int.reduceToNat, reduceCtorEq, Int.cast_ofNat_Int, Int.reduceLT, Int.reduceLE, Int.reduceGT, Int.reduceGE, Int.reduceEq, Int.reduceNe, Int.reduceNeg, Int.reduceAdd, Int.reduceSub, Int.le_refl, List.length_map, List.getElem?_map, hq, hcl, hcl2, Q.row, Int.natCast_nonneg, true_and]
  cases hx : q.ready with
  | nil =>
    have e : ((([] : List Int).length : Nat) : Int) = 0 := rfl
    simp only [go_sem, Nat.reduceAdd, Nat.reduceSub, Nat.reduceMul, Nat.reduceEqDiff, Nat.reduceLeDiff, Nat.reduceLT, ↓reduceIte, Int.reduceToNat, reduceCtorEq, Int.cast_ofNat_Int, Int.reduceLT, Int.reduceLE, Int.reduceGT, Int.reduceGE, Int.reduceEq, Int.reduceNe, Int.reduceNeg, Int.reduceAdd, Int.reduceSub, Int.le_refl, List.length_nil, Int.ofNat_zero]
    exact fin _ _ (by rw [hr, hx])
  | cons x l =>
    have hx1 := hrng.1 x (by rw [hx]; simp)
    have hxl : x.toNat < s.thr.length := by omega
    obtain ⟨tx, htx⟩ := at_lt hxl
    have hpx : s.pri x = tx.pri := by simp [S.pri, htx]
    have hne : ¬ (((l.length + 1 : Nat) : Int) = 0) := by omega
    have hne2 : (0 : Int) < ((l.length + 1 : Nat) : Int) := by omega
    simp only [go_sem, Nat.reduceAdd, Nat.reduceSub, Nat.reduceMul, Nat.reduceEqDiff, Nat.reduceLeDiff, Nat.reduceLT, ↓reduceIte, Int.reduceToNat, reduceCtorEq, Int.cast_ofNat_Int, Int.reduceLT, Int.reduceLE, Int.reduceGT, Int.reduceGE, Int.reduceEq, Int.reduceNe, Int.reduceNeg, Int.reduceAdd, Int.reduceSub, Int.le_refl, List.length_cons, hne, List.length_map, List.getElem?_map, hq, hcl, hcl2, Q.row, Int.natCast_nonneg, true_and, hx]
    rcases Decidable.em (q.run = -1) with a2 | a2
    · simp only [go_sem, Nat.reduceAdd, Nat.reduceSub, Nat.reduceMul, Nat.reduceEqDiff, Nat.reduceLeDiff, Nat.reduceLT, ↓reduceIte, Int.reduceToNat, reduceCtorEq, Int.cast_ofNat_Int, Int.reduceLT, Int.reduceLE, Int.reduceGT, Int.reduceGE, Int.reduceEq, Int.reduceNe, Int.reduceNeg, Int.reduceAdd, Int.reduceSub, Int.le_refl, a2]
      exact fin _ _ (by rw [hr, hx, a2]; rfl)
    have hrun := hrng.2.resolve_left a2
    have hnl : q.run.toNat < s.thr.length := by omega
    obtain ⟨tn, htn⟩ := at_lt hnl
    have hpn : s.pri q.run = tn.pri := by simp [S.pri, htn]
    simp only [go_sem, Nat.reduceAdd, Nat.reduceSub, Nat.reduceMul, Nat.reduceEqDiff, Nat.reduceLeDiff, Nat.reduceLT, ↓reduceIte, Int.reduceToNat, reduceCtorEq, Int.cast_ofNat_Int, Int.reduceLT, Int.reduceLE, Int.reduceGT, Int.reduceGE, Int.reduceEq, Int.reduceNe, Int.reduceNeg, Int.reduceAdd, Int.reduceSub, Int.le_refl, a2]
    refine draw [.qu 0 0, .qu 0 0, .qu 0 0, .qu 0 0, .qu 0 0, .qu 0 0, .qu 0 0, .qu 0 0, .qu 0 0, .qu 0 0] (by kernel_rfl) (by kernel_rfl) ?_
    simp only [go_sem, Nat.reduceAdd, Nat.reduceSub, Nat.reduceMul, Nat.reduceEqDiff, Nat.reduceLeDiff, Nat.reduceLT, ↓reduceIte, Int.reduceToNat, reduceCtorEq, Int.cast_ofNat_Int, Int.reduceLT, Int.reduceLE, Int.reduceGT, Int.reduceGE, Int.reduceEq, Int.reduceNe, Int.reduceNeg, Int.reduceAdd, Int.reduceSub, Int.le_refl, List.length_cons, hne2, hx1, hxl, htx, T.row, List.length_map, List.getElem?_map, hrun, hnl, htn, true_and, List.map_cons]
    have hr2 : s.rDue c = (decide (tx.pri > tn.pri) || decide (q.left = 0 ∧ tx.pri ≥ tn.pri)) := by
      rw [hr, hx]; simp only; rw [if_neg a2, hpx, hpn]
    rcases Decidable.em (tn.pri < tx.pri) with b1 | b1
    · simp only [go_sem, Nat.reduceAdd, Nat.reduceSub, Nat.reduceMul, Nat.reduceEqDiff, Nat.reduceLeDiff, Nat.reduceLT, ↓reduceIte, Int.reduceToNat, reduceCtorEq, Int.cast_ofNat_Int, Int.reduceLT, Int.reduceLE, Int.reduceGT, Int.reduceGE, Int.reduceEq, Int.reduceNe, Int.reduceNeg, Int.reduceAdd, Int.reduceSub, Int.le_refl, b1]
      exact fin _ _ (by rw [hr2]; simp [b1])
    · rcases Decidable.em (q.left = 0) with b2 | b2
      · rcases Decidable.em (tn.pri ≤ tx.pri) with b3 | b3
        · simp only [go_sem, Nat.reduceAdd, Nat.reduceSub, Nat.reduceMul, Nat.reduceEqDiff, Nat.reduceLeDiff, Nat.reduceLT, ↓reduceIte, Int.reduceToNat, reduceCtorEq, Int.cast_ofNat_Int, Int.reduceLT, Int.reduceLE, Int.reduceGT, Int.reduceGE, Int.reduceEq, Int.reduceNe, Int.reduceNeg, Int.reduceAdd, Int.reduceSub, Int.le_refl, b1, b2, b3]
          exact fin _ _ (by rw [hr2]; simp [b1, b2, b3])
        · simp only [go_sem, Nat.reduceAdd, Nat.reduceSub, Nat.reduceMul, Nat.reduceEqDiff, Nat.reduceLeDiff, Nat.reduceLT, ↓reduceIte, Int.reduceToNat, reduceCtorEq, Int.cast_ofNat_Int, Int.reduceLT, Int.reduceLE, Int.reduceGT, Int.reduceGE, Int.reduceEq, Int.reduceNe, Int.reduceNeg, Int.reduceAdd, Int.reduceSub, Int.le_refl, b1, b2, b3]
          exact fin _ _ (by rw [hr2]; simp [b1, b2, b3])
      · simp only [go_sem, Nat.reduceAdd, Nat.reduceSub, Nat.reduceMul, Nat.reduceEqDiff, Nat.reduceLeDiff, Nat.reduceLT, ↓reduceIte, Int.reduceToNat, reduceCtorEq, Int.cast_ofNat_Int, Int.reduceLT, Int.reduceLE, Int.reduceGT, Int.reduceGE, Int.reduceEq, Int.reduceNe, Int.reduceNeg, Int.reduceAdd, Int.reduceSub, Int.le_refl, b1, b2]
        exact fin _ _ (by rw [hr2]; simp [b1, b2])
end Go.Proofs.Ytljepmbikbdicaa

set_option maxRecDepth 100000
set_option linter.unusedVariables false
set_option linter.unusedSimpArgs false
namespace Go.Proofs.Ytljepmbikbdicaa
open Go.AM
theorem SwitchR_c (s : S) (h : s.Ok) (c : Nat) (q : Q) (hq : s.cpus[c]? = some q) :
    ACalls Try.prog 80 [s.av, iv c] [] (fun o H => o = .ret (.tuple [(s.sw c).av, iv ((s.sw c).runOf c)]) ∧ H = []) := by
  have hcl : c < s.cpus.length := (List.getElem?_eq_some_iff.1 hq).1
  have hcl2 : (c : Int) < s.cpus.length := by omega
  have hv := (valid_iff s).2 h
  have hrun := h.run c q hq
  have hdr : s.rDue c = s.due c := by rw [S.rDue, if_pos hv, cp_nat, hq]; simp
  have hdc := DueR_c s c
  rw [hdr] at hdc
  have hf := h.fit
  refine ACalls.up ?_
  refine ACalls.intro (cs := [2, 7, 10]) (n := 87) Try.func80 rfl rfl rfl (by kernel_rfl) rfl ?_
  generalize hpost : (fun (o : Out) (H : Heap) => o = Out.ret (.tuple [(s.sw c).av, iv ((s.sw c).runOf c)]) ∧ H = []) = post
  simp only [go_sem, Nat.reduceAdd, Nat.reduceSub, Nat.reduceMul, Nat.reduceEqDiff, Nat.reduceLeDiff, Nat.reduceLT, ↓reduceIte, Int.reduceToNat, reduceCtorEq, Int.cast_ofNat_Int, Int.reduceLT, Int.reduceLE, Int.reduceGT, Int.reduceGE, Int.reduceEq, Int.reduceNe, Int.reduceNeg, Int.reduceAdd, Int.reduceSub, Int.le_refl, S.av]
  refine seq_cut (fun _ : Unit => ((((Ch.nil.put 1 (iv c)).put 2 (.ptr 3 0 0)).put 4 (.ptr 4 0 0)).put 6 (.ptr 0 0 0))) (fun _ => s.heap [s.box, zcell]) (fun _ => True) (by kernel_rfl) (fun K hK => ?_) (fun _ _ => ?_)
  · simp only [go_sem, Nat.reduceAdd, Nat.reduceSub, Nat.reduceMul, Nat.reduceEqDiff, Nat.reduceLeDiff, Nat.reduceLT, ↓reduceIte, Int.reduceToNat, reduceCtorEq, Int.cast_ofNat_Int, Int.reduceLT, Int.reduceLE, Int.reduceGT, Int.reduceGE, Int.reduceEq, Int.reduceNe, Int.reduceNeg, Int.reduceAdd, Int.reduceSub, Int.le_refl]
    refine rK_use (enters_of Try.func92 rfl (by decide)) (Copy_u s hf _ 2 rfl) ?_
    simp only [go_sem, Nat.reduceAdd, Nat.reduceSub, Nat.reduceMul, Nat.reduceEqDiff, Nat.reduceLeDiff, Nat.reduceLT, ↓reduceIte, Int.reduceToNat, reduceCtorEq, Int.cast_ofNat_Int, Int.reduceLT, Int.reduceLE, Int.reduceGT, Int.reduceGE, Int.reduceEq, Int.reduceNe, Int.reduceNeg, Int.reduceAdd, Int.reduceSub, Int.le_refl]
    exact hK () _ _ trivial (copied (by simp [wkP, Ch.get, AV.ren, pi]))
  simp only [go_sem, Nat.reduceAdd, Nat.reduceSub, Nat.reduceMul, Nat.reduceEqDiff, Nat.reduceLeDiff, Nat.reduceLT, ↓reduceIte, Int.reduceToNat, reduceCtorEq, Int.cast_ofNat_Int, Int.reduceLT, Int.reduceLE, Int.reduceGT, Int.reduceGE, Int.reduceEq, Int.reduceNe, Int.reduceNeg, Int.reduceAdd, Int.reduceSub, Int.le_refl, S.heap, S.box, zcell, List.length_map, List.getElem?_map, hq, hcl, hcl2, Q.row, Int.natCast_nonneg]
  refine seq_cut (fun _ : Unit => (((((Ch.nil.put 1 (iv c)).put 2 (.ptr 3 0 0)).put 4 (.ptr 4 0 0)).put 6 (.ptr 0 0 0)).put 7 (iv q.run))) (fun _ => s.heap [s.box, zcell]) (fun _ => s.due c = true) (by kernel_rfl) (fun K hK => ?_) (fun _ hd => ?_)
  · simp only [go_sem, Nat.reduceAdd, Nat.reduceSub, Nat.reduceMul, Nat.reduceEqDiff, Nat.reduceLeDiff, Nat.reduceLT, ↓reduceIte, Int.reduceToNat, reduceCtorEq, Int.cast_ofNat_Int, Int.reduceLT, Int.reduceLE, Int.reduceGT, Int.reduceGE, Int.reduceEq, Int.reduceNe, Int.reduceNeg, Int.reduceAdd, Int.reduceSub, Int.le_refl]
    refine rK_use (enters_of Try.func32 rfl (by decide)) (ACalls.pure_use (hdc) rfl rfl) ?_
    cases hd : s.due c
    · have hsw : s.sw c = if 0 ≤ q.run ∧ q.left = 0 then s.setQ c { q with left := s.quantum } else s := by simp only [S.sw, hq, hd, Bool.false_eq_true, if_false]
      rcases Decidable.em (q.run = -1) with a1 | a1
      · rw [if_neg (by omega)] at hsw
        rw [hsw] at hpost
        have hro : s.runOf c = -1 := by simp only [S.runOf, hq]; exact a1
        rw [hro] at hpost
        simp only [go_sem, Nat.reduceAdd, Nat.reduceSub, Nat.reduceMul, Nat.reduceEqDiff, Nat.reduceLeDiff, Nat.reduceLT, ↓reduceIte, Int.reduceToNat, reduceCtorEq, Int.cast_ofNat_Int, Int.reduceLT, Int.reduceLE, Int.reduceGT, Int.reduceGE, Int.reduceEq, Int.reduceNe, Int.reduceNeg, Int.reduceAdd, Int.reduceSub, Int.le_refl, a1]
        subst hpost
        exact .dead 4 (ending2 (s' := s) (R := [s.box, .dead]) rfl rfl rfl rfl (box_dead s) ⟨rfl, rfl⟩)
      · have h0 : 0 ≤ q.run := by
          rcases hrun with g | g
          · exact absurd g.1 a1
          · exact (S.is_lt g.1).1
        rcases Decidable.em (q.left = 0) with a2 | a2
        · rw [if_pos ⟨h0, a2⟩] at hsw
          have hro : (s.setQ c { q with left := s.quantum }).runOf c = q.run := by simp only [S.runOf, setQ_self hcl]
          rw [hsw, hro] at hpost
          simp only [go_sem, Nat.reduceAdd, Nat.reduceSub, Nat.reduceMul, Nat.reduceEqDiff, Nat.reduceLeDiff, Nat.reduceLT, ↓reduceIte, Int.reduceToNat, reduceCtorEq, Int.cast_ofNat_Int, Int.reduceLT, Int.reduceLE, Int.reduceGT, Int.reduceGE, Int.reduceEq, Int.reduceNe, Int.reduceNeg, Int.reduceAdd, Int.reduceSub, Int.le_refl, a1, a2, List.length_map, List.getElem?_map, hq, hcl, hcl2, Q.row, Int.natCast_nonneg]
          subst hpost
          exact .dead 4 (ending2 (s' := s.setQ c { q with left := s.quantum }) (R := [s.box, .dead]) (by rw [S.setQ_heap]; rfl) (by simp [setQ_len]) rfl rfl (box_dead s) ⟨rfl, rfl⟩)
        · rw [if_neg (by omega)] at hsw
          have hro : s.runOf c = q.run := by simp only [S.runOf, hq]
          rw [hsw, hro] at hpost
          simp only [go_sem, Nat.reduceAdd, Nat.reduceSub, Nat.reduceMul, Nat.reduceEqDiff, Nat.reduceLeDiff, Nat.reduceLT, ↓reduceIte, Int.reduceToNat, reduceCtorEq, Int.cast_ofNat_Int, Int.reduceLT, Int.reduceLE, Int.reduceGT, Int.reduceGE, Int.reduceEq, Int.reduceNe, Int.reduceNeg, Int.reduceAdd, Int.reduceSub, Int.le_refl, a1, a2, List.length_map, List.getElem?_map, hq, hcl, hcl2, Q.row, Int.natCast_nonneg]
          subst hpost
          exact .dead 4 (ending2 (s' := s) (R := [s.box, .dead]) rfl rfl rfl rfl (box_dead s) ⟨rfl, rfl⟩)
    · simp only [go_sem, Nat.reduceAdd, Nat.reduceSub, Nat.reduceMul, Nat.reduceEqDiff, Nat.reduceLeDiff, Nat.reduceLT, ↓reduceIte, Int.reduceToNat, reduceCtorEq, Int.cast_ofNat_Int, Int.reduceLT, Int.reduceLE, Int.reduceGT, Int.reduceGE, Int.reduceEq, Int.reduceNe, Int.reduceNeg, Int.reduceAdd, Int.reduceSub, Int.le_refl]
      exact hK () _ _ hd (Wk.slots' rfl (by simp [wkS, Ch.get]))
  obtain ⟨q1, x, l, g1, g2, g3, g4, g5, g6, g7⟩ := h.back hq hd
  obtain ⟨hidle, l0, i1, i2, i3⟩ := h.idle hq
  have hsw : s.sw c = (s.back q).fore c := by simp only [S.sw, hq, hd, if_true]
  simp only [go_sem, Nat.reduceAdd, Nat.reduceSub, Nat.reduceMul, Nat.reduceEqDiff, Nat.reduceLeDiff, Nat.reduceLT, ↓reduceIte, Int.reduceToNat, reduceCtorEq, Int.cast_ofNat_Int, Int.reduceLT, Int.reduceLE, Int.reduceGT, Int.reduceGE, Int.reduceEq, Int.reduceNe, Int.reduceNeg, Int.reduceAdd, Int.reduceSub, Int.le_refl]
  refine seq_cut (fun _ : Unit => (((((Ch.nil.put 1 (iv c)).put 2 (.ptr 3 0 0)).put 4 (.ptr 4 0 0)).put 6 (.ptr 0 0 0)))) (fun _ => (s.back q).heap [s.box, zcell]) (fun _ => True) (by kernel_rfl) (fun K hK => ?_) (fun _ _ => ?_)
  · simp only [go_sem, Nat.reduceAdd, Nat.reduceSub, Nat.reduceMul, Nat.reduceEqDiff, Nat.reduceLeDiff, Nat.reduceLT, ↓reduceIte, Int.reduceToNat, reduceCtorEq, Int.cast_ofNat_Int, Int.reduceLT, Int.reduceLE, Int.reduceGT, Int.reduceGE, Int.reduceEq, Int.reduceNe, Int.reduceNeg, Int.reduceAdd, Int.reduceSub, Int.le_refl]
    rcases Decidable.em (q.run = -1) with a1 | a1
    · have : s.back q = s := by rw [S.back, if_neg (by omega)]
      simp only [go_sem, Nat.reduceAdd, Nat.reduceSub, Nat.reduceMul, Nat.reduceEqDiff, Nat.reduceLeDiff, Nat.reduceLT, ↓reduceIte, Int.reduceToNat, reduceCtorEq, Int.cast_ofNat_Int, Int.reduceLT, Int.reduceLE, Int.reduceGT, Int.reduceGE, Int.reduceEq, Int.reduceNe, Int.reduceNeg, Int.reduceAdd, Int.reduceSub, Int.le_refl, a1]
      exact hK () _ _ trivial (Wk.slots' (by rw [this]) (by simp [wkS, Ch.get]))
    · have hru := hrun.resolve_left (fun e => a1 e.1)
      obtain ⟨i, t, hi, ht, htc, hts⟩ := S.is_thr hru.1
      have hti : i < s.thr.length := (List.getElem?_eq_some_iff.1 ht).1
      have hti2 : (i : Int) < s.thr.length := by omega
      have hcc : t.cpu.toNat = c := by omega
      have hq' : s.cpus[t.cpu.toNat]? = some q := by rw [hcc]; exact hq
      have hbk : s.back q = (s.setSt i 1).enq i (decide (0 < q.left)) := by rw [S.back, if_pos (by omega), hi, Int.toNat_natCast, put_enq s i _ t q ht hq']
      have e := S.setSt_heap ht 1 [s.box, zcell]
      have e0 := S.setSt_eq ht 1
      have hl1 : (s.setSt i 1).thr.length = s.thr.length := by rw [e0]; simp
      have hlen1 : (s.setSt i 1).cpus = s.cpus := by rw [e0]
      have hput := put_r (s.setSt i 1) i (decide (0 < q.left)) { t with st := 1 } q (by rw [e0]; simp [hti]) (by dsimp only; omega) (by rw [e0]; exact hq') (hf.r q (List.mem_of_getElem? hq)) (by rw [hl1]; exact (h.due_h hq).1)
      have b1 : ¬ ((i : Int) = -1) := by omega
      rw [← hbk] at hput
      simp only [S.box, zcell, List.cons_append, List.nil_append] at e
      have hl0 : 0 ≤ q.left := hru.2.1
      have hdec : decide (¬ q.left = 0) = decide (0 < q.left) := by
        by_cases e : q.left = 0
        · rw [e]; rfl
        · rw [decide_eq_true e, decide_eq_true (by omega)]
      rw [hi]
      simp only [go_sem, Nat.reduceAdd, Nat.reduceSub, Nat.reduceMul, Nat.reduceEqDiff, Nat.reduceLeDiff, Nat.reduceLT, ↓reduceIte, Int.reduceToNat, reduceCtorEq, Int.cast_ofNat_Int, Int.reduceLT, Int.reduceLE, Int.reduceGT, Int.reduceGE, Int.reduceEq, Int.reduceNe, Int.reduceNeg, Int.reduceAdd, Int.reduceSub, Int.le_refl, b1, S.heap, S.box, zcell, List.length_map, List.getElem?_map, ht, hti, hti2, T.row, Int.natCast_nonneg, hcl, hcl2, hq, Q.row]
      rw [hdec, ← e]
      refine rK_use (enters_of Try.func93 rfl (by decide)) (wuse (R := [s.box, zcell]) (hput) (by simp [ltL, AV.lt]) rfl) ?_
      simp only [go_sem, Nat.reduceAdd, Nat.reduceSub, Nat.reduceMul, Nat.reduceEqDiff, Nat.reduceLeDiff, Nat.reduceLT, ↓reduceIte, Int.reduceToNat, reduceCtorEq, Int.cast_ofNat_Int, Int.reduceLT, Int.reduceLE, Int.reduceGT, Int.reduceGE, Int.reduceEq, Int.reduceNe, Int.reduceNeg, Int.reduceAdd, Int.reduceSub, Int.le_refl]
      exact hK () _ _ trivial (Wk.slots' rfl (by simp [wkS, Ch.get]))
  -- the front
  have hi2 := hidle.rdy c _ i1
  rw [i2] at g1
  cases g1
  simp only at g2
  subst g2
  obtain ⟨i, t, hxi, ht, htc, hts⟩ := S.is_thr (hi2.1 x (by simp))
  subst hxi
  have hnd := hi2.2.1
  rw [List.nodup_cons] at hnd
  have hfl : ((i : Int) :: l).filter (fun y : Int => decide (y ≠ i)) = l := by
    rw [List.filter_cons_of_neg (by simp), List.filter_eq_self]
    intro y hy
    have : y ≠ i := fun e => hnd.1 (e ▸ hy)
    simp [this]
  have hcc : t.cpu.toNat = c := by omega
  have htA : (s.back q).thr[i]? = some t := by rw [i3]; exact ht
  have hqA : (s.back q).cpus[c]? = some ⟨q.run, q.left, (i : Int) :: l⟩ := i2
  have hlA : c < (s.back q).cpus.length := by rw [g5]; exact hcl
  have hlA2 : (c : Int) < (s.back q).cpus.length := by omega
  have hqu : (s.back q).quantum = s.quantum := g6
  have hll : ((i : Int) :: l).length ≤ 1000 := hidle.fit.r _ (List.mem_of_getElem? i1)
  have hfo : (s.back q).fore c = ((s.back q).setQ c ⟨i, (s.back q).quantum, l⟩).setSt i 2 := by simp only [S.fore, hqA, Int.toNat_natCast]
  rw [hsw, hfo] at hpost
  generalize s.back q = sA at *
  have hdq : sA.deq i = sA.setQ c ⟨q.run, q.left, l⟩ := by
    simp only [S.deq, htA, hcc, hqA]
    rw [hfl]
  have hout := out_r sA i t ⟨q.run, q.left, (i : Int) :: l⟩ htA (by omega) (by rw [hcc]; exact hqA) hll
  rw [hdq] at hout
  have hne2 : (0 : Int) < ((l.length + 1 : Nat) : Int) := by omega
  simp only [go_sem, Nat.reduceAdd, Nat.reduceSub, Nat.reduceMul, Nat.reduceEqDiff, Nat.reduceLeDiff, Nat.reduceLT, ↓reduceIte, Int.reduceToNat, reduceCtorEq, Int.cast_ofNat_Int, Int.reduceLT, Int.reduceLE, Int.reduceGT, Int.reduceGE, Int.reduceEq, Int.reduceNe, Int.reduceNeg, Int.reduceAdd, Int.reduceSub, Int.le_refl, S.heap, S.box, zcell, List.length_map, List.getElem?_map, hqA, hlA, hlA2, Q.row, Int.natCast_nonneg, List.length_cons, hne2, List.map_cons]
  refine rK_use (enters_of Try.func96 rfl (by decide)) (wuse (R := [s.box, zcell]) (hout) (by simp [ltL, AV.lt]) rfl) ?_
  have hil : i < sA.thr.length := (List.getElem?_eq_some_iff.1 htA).1
  have hil2 : (i : Int) < sA.thr.length := by omega
  have hro : ((sA.setQ c ⟨i, sA.quantum, l⟩).setSt i 2).runOf c = i := by
    simp only [S.runOf, setSt_cpl, setQ_self hlA]
  rw [hro] at hpost
  have htQ : (sA.setQ c ⟨i, sA.quantum, l⟩).thr[i]? = some t := htA
  have e := S.setSt_heap htQ 2 [s.box, .dead]
  rw [S.setQ_heap]
  simp only [List.cons_append, List.nil_append]
  simp only [go_sem, Nat.reduceAdd, Nat.reduceSub, Nat.reduceMul, Nat.reduceEqDiff, Nat.reduceLeDiff, Nat.reduceLT, ↓reduceIte, Int.reduceToNat, reduceCtorEq, Int.cast_ofNat_Int, Int.reduceLT, Int.reduceLE, Int.reduceGT, Int.reduceGE, Int.reduceEq, Int.reduceNe, Int.reduceNeg, Int.reduceAdd, Int.reduceSub, Int.le_refl, S.box, zcell, List.length_map, List.getElem?_map, hqA, hlA, hlA2, Q.row, T.row, Int.natCast_nonneg, htA, hil, hil2, List.length_set, List.getElem?_set, List.set_set]
  subst hpost
  refine .dead 4 (ending2 (s' := (sA.setQ c ⟨i, sA.quantum, l⟩).setSt i 2) (R := [s.box, .dead]) ?_ (by simp [setSt_cpl, setQ_len]) (by simp [S.setSt_eq htQ]; rfl) (by simp [S.setSt_eq htQ]; rfl) (box_dead s) ⟨rfl, rfl⟩)
  rw [e]
  simp [S.setQ, S.box, Q.row, T.row, List.map_set]
end Go.Proofs.Ytljepmbikbdicaa

set_option maxRecDepth 100000
set_option linter.unusedVariables false
set_option linter.unusedSimpArgs false
namespace Go.Proofs.Ytljepmbikbdicaa
open Go.AM
theorem threads_c (s : S) (h : s.Ok) (c : Nat) (q : Q) (hq : s.cpus[c]? = some q) : ACalls Try.prog 97 [s.av, iv c] [] (fun o H => o = .ret (iv q.load) ∧ H = []) := by
  have hcl : c < s.cpus.length := (List.getElem?_eq_some_iff.1 hq).1
  have hcl2 : (c : Int) < s.cpus.length := by omega
  have hrun := h.run c q hq
  have hl := h.fit.r q (List.mem_of_getElem? hq)
  refine ACalls.up ?_
  refine ACalls.intro (cs := []) (n := 23) Try.func97 rfl rfl rfl (by kernel_rfl) rfl ?_
  generalize hpost : (fun (o : Out) (H : Heap) => o = Out.ret (iv q.load) ∧ H = []) = post
  simp only [go_sem, Nat.reduceAdd, Nat.reduceSub, Nat.reduceMul, Nat.reduceEqDiff, Nat.reduceLeDiff, Nat.reduceLT, ↓reduceIte, Int.reduceToNat, reduceCtorEq, Int.cast_ofNat_Int, Int.reduceLT, Int.reduceLE, Int.reduceGT, Int.reduceGE, Int.reduceEq, Int.reduceNe, Int.reduceNeg, Int.reduceAdd, Int.reduceSub, Int.le_refl, S.av, List.length_map, List.getElem?_map, hq, hcl, hcl2, Q.row, Int.natCast_nonneg]
  rcases Decidable.em (q.run = -1) with a1 | a1
  · have e : q.load = q.ready.length := by have := load_cases q; omega
    rw [e] at hpost
    simp only [go_sem, Nat.reduceAdd, Nat.reduceSub, Nat.reduceMul, Nat.reduceEqDiff, Nat.reduceLeDiff, Nat.reduceLT, ↓reduceIte, Int.reduceToNat, reduceCtorEq, Int.cast_ofNat_Int, Int.reduceLT, Int.reduceLE, Int.reduceGT, Int.reduceGE, Int.reduceEq, Int.reduceNe, Int.reduceNeg, Int.reduceAdd, Int.reduceSub, Int.le_refl, a1]
    exact fin_i (by rw [← hpost]; exact ⟨rfl, rfl⟩) _
  · have h0 := (S.is_lt (hrun.resolve_left fun g => a1 g.1).1).1
    have e : q.load = q.ready.length + 1 := by have := load_cases q; omega
    have e1 : iw .i64 ((q.ready.length : Int) + 1) = (q.ready.length : Int) + 1 := by rw [iw64] <;> omega
    rw [e] at hpost
    simp only [go_sem, Nat.reduceAdd, Nat.reduceSub, Nat.reduceMul, Nat.reduceEqDiff, Nat.reduceLeDiff, Nat.reduceLT, ↓reduceIte, Int.reduceToNat, reduceCtorEq, Int.cast_ofNat_Int, Int.reduceLT, Int.reduceLE, Int.reduceGT, Int.reduceGE, Int.reduceEq, Int.reduceNe, Int.reduceNeg, Int.reduceAdd, Int.reduceSub, Int.le_refl, a1, e1]
    exact fin_i (by rw [← hpost]; exact ⟨rfl, rfl⟩) _
theorem erase_filter {l : List Int} {x : Int} (h : l.Nodup) : l.erase x = l.filter (fun y : Int => decide (y ≠ x)) := by
  rw [List.Nodup.erase_eq_filter h]
  apply List.filter_congr
  intro y _
  by_cases e : y = x <;> simp [e]
theorem take_deq {s : S} (h : s.Ok) {i : Nat} {t : T} {q : Q} (ht : s.thr[i]? = some t) (hst : t.st = 1) (hq : s.cpus[t.cpu.toNat]? = some q) : s.take i = s.deq i := by
  have hb := h.bd ht
  have hr : q.run ≠ i := fun e => by
    rcases h.run _ q hq with g | g
    · omega
    · have := (is_cpu g.1 (e ▸ is_of ht)).2
      omega
  rw [S.take_eq ht hq]
  simp only [S.deq, ht, hq, Q.out, if_neg hr, erase_filter (h.rdy _ q hq).2.1]
theorem StealR_c (s : S) (h : s.Ok) (c : Nat) (hcl : c < s.cpus.length) :
    ACalls Try.prog 83 [s.av, iv c] [] (fun o H => o = .ret (.tuple [(s.steal c).av, iv (s.nSteal c)]) ∧ H = []) := by
  have hcl2 : (c : Int) < s.cpus.length := by omega
  have h4 := h.c4
  have h1 := h.c1
  obtain ⟨q, hq⟩ := at_lt hcl
  have hf := h.fit
  refine ACalls.up ?_
  refine ACalls.intro (cs := [2, 4]) (n := 57) Try.func83 rfl rfl rfl (by kernel_rfl) rfl ?_
  generalize hpost : (fun (o : Out) (H : Heap) => o = Out.ret (.tuple [(s.steal c).av, iv (s.nSteal c)]) ∧ H = []) = post
  simp only [go_sem, Nat.reduceAdd, Nat.reduceSub, Nat.reduceMul, Nat.reduceEqDiff, Nat.reduceLeDiff, Nat.reduceLT, ↓reduceIte, Int.reduceToNat, reduceCtorEq, Int.cast_ofNat_Int, Int.reduceLT, Int.reduceLE, Int.reduceGT, Int.reduceGE, Int.reduceEq, Int.reduceNe, Int.reduceNeg, Int.reduceAdd, Int.reduceSub, Int.le_refl, S.av]
  refine seq_cut (fun _ : Unit => ((((Ch.nil.put 1 (iv c)).put 2 (.ptr 3 0 0)).put 4 (.ptr 4 0 0)).put 6 (.ptr 0 0 0))) (fun _ => s.heap [s.box, zcell]) (fun _ => True) (by kernel_rfl) (fun K hK => ?_) (fun _ _ => ?_)
  · simp only [go_sem, Nat.reduceAdd, Nat.reduceSub, Nat.reduceMul, Nat.reduceEqDiff, Nat.reduceLeDiff, Nat.reduceLT, ↓reduceIte, Int.reduceToNat, reduceCtorEq, Int.cast_ofNat_Int, Int.reduceLT, Int.reduceLE, Int.reduceGT, Int.reduceGE, Int.reduceEq, Int.reduceNe, Int.reduceNeg, Int.reduceAdd, Int.reduceSub, Int.le_refl]
    refine rK_use (enters_of Try.func92 rfl (by decide)) (Copy_u s hf _ 2 rfl) ?_
    simp only [go_sem, Nat.reduceAdd, Nat.reduceSub, Nat.reduceMul, Nat.reduceEqDiff, Nat.reduceLeDiff, Nat.reduceLT, ↓reduceIte, Int.reduceToNat, reduceCtorEq, Int.cast_ofNat_Int, Int.reduceLT, Int.reduceLE, Int.reduceGT, Int.reduceGE, Int.reduceEq, Int.reduceNe, Int.reduceNeg, Int.reduceAdd, Int.reduceSub, Int.le_refl]
    exact hK () _ _ trivial (copied (by simp [wkP, Ch.get, AV.ren, pi]))
  have same : (s.loadOf c > 0 ∨ s.loadOf s.full < 2) → ∀ R, (∀ b ∈ R, b.lt 0) → Up 0 post (.ret (.tuple [.agg [.sl 1 0 s.cpus.length none, .sl 2 0 s.thr.length none, iv s.quantum], iv (-1)])) (s.heap R) := fun hl R hR => by
    subst hpost
    have e1 : s.steal c = s := by rw [S.steal, if_pos hl]
    have e2 : s.nSteal c = -1 := by rw [S.nSteal, if_pos hl]
    rw [e1, e2]
    exact ending2 (s' := s) (R := R) rfl rfl rfl rfl hR ⟨rfl, rfl⟩
  refine seq_cut (fun _ : Unit => ((((Ch.nil.put 1 (iv c)).put 2 (.ptr 3 0 0)).put 4 (.ptr 4 0 0)).put 6 (.ptr 0 0 0))) (fun _ => s.heap [s.box, zcell]) (fun _ => ¬ s.loadOf c > 0) (by kernel_rfl) (fun K hK => ?_) (fun _ hlc => ?_)
  · simp only [go_sem, Nat.reduceAdd, Nat.reduceSub, Nat.reduceMul, Nat.reduceEqDiff, Nat.reduceLeDiff, Nat.reduceLT, ↓reduceIte, Int.reduceToNat, reduceCtorEq, Int.cast_ofNat_Int, Int.reduceLT, Int.reduceLE, Int.reduceGT, Int.reduceGE, Int.reduceEq, Int.reduceNe, Int.reduceNeg, Int.reduceAdd, Int.reduceSub, Int.le_refl, S.heap, S.box, zcell]
    refine rK_use (enters_of Try.func97 rfl (by decide)) (ACalls.pure_use (threads_c s h c q hq) rfl rfl) ?_
    have hlo := loadOf_at hq
    rcases Decidable.em (0 < q.load) with a1 | a1
    · simp only [go_sem, Nat.reduceAdd, Nat.reduceSub, Nat.reduceMul, Nat.reduceEqDiff, Nat.reduceLeDiff, Nat.reduceLT, ↓reduceIte, Int.reduceToNat, reduceCtorEq, Int.cast_ofNat_Int, Int.reduceLT, Int.reduceLE, Int.reduceGT, Int.reduceGE, Int.reduceEq, Int.reduceNe, Int.reduceNeg, Int.reduceAdd, Int.reduceSub, Int.le_refl, a1]
      exact .dead 4 (same (.inl (by omega)) [s.box, .dead] (box_dead s))
    · simp only [go_sem, Nat.reduceAdd, Nat.reduceSub, Nat.reduceMul, Nat.reduceEqDiff, Nat.reduceLeDiff, Nat.reduceLT, ↓reduceIte, Int.reduceToNat, reduceCtorEq, Int.cast_ofNat_Int, Int.reduceLT, Int.reduceLE, Int.reduceGT, Int.reduceGE, Int.reduceEq, Int.reduceNe, Int.reduceNeg, Int.reduceAdd, Int.reduceSub, Int.le_refl, a1]
      exact hK () _ _ (by omega) (Wk.slots' rfl (by simp [wkS, Ch.get]))
  simp only [go_sem, Nat.reduceAdd, Nat.reduceSub, Nat.reduceMul, Nat.reduceEqDiff, Nat.reduceLeDiff, Nat.reduceLT, ↓reduceIte, Int.reduceToNat, reduceCtorEq, Int.cast_ofNat_Int, Int.reduceLT, Int.reduceLE, Int.reduceGT, Int.reduceGE, Int.reduceEq, Int.reduceNe, Int.reduceNeg, Int.reduceAdd, Int.reduceSub, Int.le_refl]
  refine loop_fam (fun x : Nat × Nat => ((((((Ch.nil.put 1 (iv c)).put 2 (.ptr 3 0 0)).put 4 (.ptr 4 0 0)).put 6 (.ptr 0 0 0)).put 7 (iv x.2)).put 8 (iv x.1))) (fun _ => s.heap [s.box, zcell]) (fun x => s.cpus.length - x.1)
    (fun x => x.1 ≤ s.cpus.length ∧ x.2 < s.cpus.length ∧ fullF (s.cpus.drop x.1) x.1 x.2 (s.loadOf x.2) = s.full) (1, 0) (by kernel_rfl) ⟨h1, h1, ?_⟩ (Wk.slots' rfl (by simp [wkS, Ch.get])) ?_
  · obtain ⟨q0, l0, hl0⟩ : ∃ q l, s.cpus = q :: l := List.exists_cons_of_length_pos (by omega)
    have : s.loadOf 0 = q0.load := loadOf_at (by rw [hl0]; rfl)
    simp only [S.full]
    rw [this, hl0]
    simp [fullF]
  rintro ⟨i, full⟩ ⟨hi, hfl, hinv⟩ K hK
  simp only at hi hfl hinv
  simp only [go_sem, Nat.reduceAdd, Nat.reduceSub, Nat.reduceMul, Nat.reduceEqDiff, Nat.reduceLeDiff, Nat.reduceLT, ↓reduceIte, Int.reduceToNat, reduceCtorEq, Int.cast_ofNat_Int, Int.reduceLT, Int.reduceLE, Int.reduceGT, Int.reduceGE, Int.reduceEq, Int.reduceNe, Int.reduceNeg, Int.reduceAdd, Int.reduceSub, Int.le_refl, S.heap, S.box, zcell, List.length_map]
  refine condD_dec (fun hg => ?_) (fun hg => ?_)
  · have hi' : i < s.cpus.length := by omega
    obtain ⟨qi, hqi⟩ := at_lt hi'
    obtain ⟨qf, hqf⟩ := at_lt hfl
    have e1 : iw .i64 ((i : Int) + 1) = ((i + 1 : Nat) : Int) := by rw [iw64] <;> omega
    have hd := drop_at hqi
    rw [hd, loadOf_at hqf] at hinv
    simp only [fullF] at hinv
    simp only [go_sem, Nat.reduceAdd, Nat.reduceSub, Nat.reduceMul, Nat.reduceEqDiff, Nat.reduceLeDiff, Nat.reduceLT, ↓reduceIte, Int.reduceToNat, reduceCtorEq, Int.cast_ofNat_Int, Int.reduceLT, Int.reduceLE, Int.reduceGT, Int.reduceGE, Int.reduceEq, Int.reduceNe, Int.reduceNeg, Int.reduceAdd, Int.reduceSub, Int.le_refl]
    refine draw [.qu 0 0, .qu 0 0, .mn 0, .rd 0 1, .qu 0 1, .mn 1, .qu 2 2] (by kernel_rfl) (by kernel_rfl) ?_
    simp only [go_sem, Nat.reduceAdd, Nat.reduceSub, Nat.reduceMul, Nat.reduceEqDiff, Nat.reduceLeDiff, Nat.reduceLT, ↓reduceIte, Int.reduceToNat, reduceCtorEq, Int.cast_ofNat_Int, Int.reduceLT, Int.reduceLE, Int.reduceGT, Int.reduceGE, Int.reduceEq, Int.reduceNe, Int.reduceNeg, Int.reduceAdd, Int.reduceSub, Int.le_refl]
    refine dM_call (enters_of Try.func97 rfl (by decide)) (ACalls.pure_use (threads_c s h i qi hqi) rfl rfl) ?_
    simp only [go_sem, Nat.reduceAdd, Nat.reduceSub, Nat.reduceMul, Nat.reduceEqDiff, Nat.reduceLeDiff, Nat.reduceLT, ↓reduceIte, Int.reduceToNat, reduceCtorEq, Int.cast_ofNat_Int, Int.reduceLT, Int.reduceLE, Int.reduceGT, Int.reduceGE, Int.reduceEq, Int.reduceNe, Int.reduceNeg, Int.reduceAdd, Int.reduceSub, Int.le_refl]
    refine dM_call (enters_of Try.func97 rfl (by decide)) (ACalls.pure_use (threads_c s h full qf hqf) rfl rfl) ?_
    simp only [go_sem, Nat.reduceAdd, Nat.reduceSub, Nat.reduceMul, Nat.reduceEqDiff, Nat.reduceLeDiff, Nat.reduceLT, ↓reduceIte, Int.reduceToNat, reduceCtorEq, Int.cast_ofNat_Int, Int.reduceLT, Int.reduceLE, Int.reduceGT, Int.reduceGE, Int.reduceEq, Int.reduceNe, Int.reduceNeg, Int.reduceAdd, Int.reduceSub, Int.le_refl]
    refine condD_dec (fun hp => ?_) (fun hp => ?_)
    · rw [if_pos (by omega)] at hinv
      simp only [go_sem, Nat.reduceAdd, Nat.reduceSub, Nat.reduceMul, Nat.reduceEqDiff, Nat.reduceLeDiff, Nat.reduceLT, ↓reduceIte, Int.reduceToNat, reduceCtorEq, Int.cast_ofNat_Int, Int.reduceLT, Int.reduceLE, Int.reduceGT, Int.reduceGE, Int.reduceEq, Int.reduceNe, Int.reduceNeg, Int.reduceAdd, Int.reduceSub, Int.le_refl, e1]
      exact hK (i + 1, i) _ _ ⟨hi', hi', by dsimp only; rw [loadOf_at hqi]; exact hinv⟩ (by dsimp only; omega) (Wk.slots' rfl (by simp [wkS, Ch.get]))
    · rw [if_neg (by omega)] at hinv
      simp only [go_sem, Nat.reduceAdd, Nat.reduceSub, Nat.reduceMul, Nat.reduceEqDiff, Nat.reduceLeDiff, Nat.reduceLT, ↓reduceIte, Int.reduceToNat, reduceCtorEq, Int.cast_ofNat_Int, Int.reduceLT, Int.reduceLE, Int.reduceGT, Int.reduceGE, Int.reduceEq, Int.reduceNe, Int.reduceNeg, Int.reduceAdd, Int.reduceSub, Int.le_refl, e1]
      exact hK (i + 1, full) _ _ ⟨hi', hfl, by dsimp only; rw [loadOf_at hqf]; exact hinv⟩ (by dsimp only; omega) (Wk.slots' rfl (by simp [wkS, Ch.get]))
  have hfu : full = s.full := by
    rw [List.drop_eq_nil_of_le (by omega)] at hinv
    exact hinv
  subst hfu
  obtain ⟨qf, hqf⟩ := at_lt hfl
  have hlo := loadOf_at hqf
  have hfl2 : (s.full : Int) < s.cpus.length := by omega
  simp only [go_sem, Nat.reduceAdd, Nat.reduceSub, Nat.reduceMul, Nat.reduceEqDiff, Nat.reduceLeDiff, Nat.reduceLT, ↓reduceIte, Int.reduceToNat, reduceCtorEq, Int.cast_ofNat_Int, Int.reduceLT, Int.reduceLE, Int.reduceGT, Int.reduceGE, Int.reduceEq, Int.reduceNe, Int.reduceNeg, Int.reduceAdd, Int.reduceSub, Int.le_refl]
  refine rK_use (enters_of Try.func97 rfl (by decide)) (ACalls.pure_use (threads_c s h s.full qf hqf) rfl rfl) ?_
  rcases Decidable.em (qf.load < 2) with a1 | a1
  · simp only [go_sem, Nat.reduceAdd, Nat.reduceSub, Nat.reduceMul, Nat.reduceEqDiff, Nat.reduceLeDiff, Nat.reduceLT, ↓reduceIte, Int.reduceToNat, reduceCtorEq, Int.cast_ofNat_Int, Int.reduceLT, Int.reduceLE, Int.reduceGT, Int.reduceGE, Int.reduceEq, Int.reduceNe, Int.reduceNeg, Int.reduceAdd, Int.reduceSub, Int.le_refl, a1]
    exact .dead 4 (same (.inr (by omega)) [s.box, .dead] (box_dead s))
  have hld := load_cases qf
  obtain ⟨x, l, hx⟩ : ∃ x l, qf.ready = x :: l := List.exists_cons_of_length_pos (by omega)
  have hfr : s.frontOf s.full = x := by simp only [S.frontOf, hqf, hx]
  obtain ⟨j, t, rfl, ht, htc, hts⟩ := S.is_thr ((h.rdy _ qf hqf).1 x (by simp [hx]))
  have hcc : t.cpu.toNat = s.full := by omega
  have hqt : s.cpus[t.cpu.toNat]? = some qf := by rw [hcc]; exact hqf
  have htk := take_deq h ht hts hqt
  have hne2 : (0 : Int) < ((l.length + 1 : Nat) : Int) := by omega
  have hjl : j < s.thr.length := (List.getElem?_eq_some_iff.1 ht).1
  have hst : s.steal c = ((s.deq j).setCpu j c).put j false := by
    rw [S.steal, if_neg (by omega), hfr, Int.toNat_natCast, htk]
  have hns : s.nSteal c = j := by rw [S.nSteal, if_neg (by omega), hfr]
  have hdf := deq_facts s j
  simp only [go_sem, Nat.reduceAdd, Nat.reduceSub, Nat.reduceMul, Nat.reduceEqDiff, Nat.reduceLeDiff, Nat.reduceLT, ↓reduceIte, Int.reduceToNat, reduceCtorEq, Int.cast_ofNat_Int, Int.reduceLT, Int.reduceLE, Int.reduceGT, Int.reduceGE, Int.reduceEq, Int.reduceNe, Int.reduceNeg, Int.reduceAdd, Int.reduceSub, Int.le_refl, a1, List.length_map, List.getElem?_map, hqf, hfl, hfl2, Q.row, Int.natCast_nonneg, hx, List.length_cons, hne2, List.map_cons]
  refine rK_use (enters_of Try.func96 rfl (by decide)) (wuse (R := [s.box, zcell]) (out_r s j t qf ht (by omega) hqt (hf.r qf (List.mem_of_getElem? hqf))) (by simp [ltL, AV.lt]) rfl) ?_
  have htd : (s.deq j).thr[j]? = some t := by rw [hdf.2.1]; exact ht
  have hqc : c ≠ s.full := fun e => by rw [← e] at hlo; omega
  have hqd : (s.deq j).cpus[c]? = some q := by
    simp only [S.deq, ht, hqt]
    rw [setQ_ne (by omega)]
    exact hq
  have e := S.setCpu_eq htd c
  have htc1 : ((s.deq j).setCpu j c).thr[j]? = some { t with cpu := c } := by rw [e]; simp [hdf.2.1, hjl]
  have hqc1 : ((s.deq j).setCpu j c).cpus[((c : Int)).toNat]? = some q := by rw [e, Int.toNat_natCast]; exact hqd
  have hpe : ((s.deq j).setCpu j c).put j false = ((s.deq j).setCpu j c).enq j false := by
    rw [put_enq _ j false _ q htc1 hqc1]
    congr 1
    rw [S.setSt_eq htc1]
    have e2 : ({ t with cpu := (c : Int), st := 1 } : T) = { t with cpu := (c : Int) } := by rw [← hts]
    simp only [e2]
    rw [List.set_getElem?_self' htc1]
  rw [hst, hns, hpe] at hpost
  have hput := put_r ((s.deq j).setCpu j c) j false { t with cpu := c } q htc1 (by dsimp only; omega) hqc1 (hf.r q (List.mem_of_getElem? hq)) (by
    rw [e]
    simp only [List.length_set, hdf.2.1]
    exact (h.due_h hq).1)
  have hjl1 : j < (s.deq j).thr.length := by rw [hdf.2.1]; exact hjl
  have hjl2 : (j : Int) < (s.deq j).thr.length := by omega
  have e3 : ((s.deq j).setCpu j c).heap [s.box, zcell] = [.rows 3 [[.sl 1 0 (s.deq j).cpus.length none, .sl 2 0 (s.deq j).thr.length none, iv (s.deq j).quantum]], .rows 3 ((s.deq j).cpus.map Q.row), .rows 3 (((s.deq j).thr.map T.row).set j [iv t.pri, iv c, iv t.st]), s.box, zcell] := by
    rw [e]
    simp [S.heap, List.map_set, T.row]
  generalize s.deq j = sd at *
  simp only [go_sem, Nat.reduceAdd, Nat.reduceSub, Nat.reduceMul, Nat.reduceEqDiff, Nat.reduceLeDiff, Nat.reduceLT, ↓reduceIte, Int.reduceToNat, reduceCtorEq, Int.cast_ofNat_Int, Int.reduceLT, Int.reduceLE, Int.reduceGT, Int.reduceGE, Int.reduceEq, Int.reduceNe, Int.reduceNeg, Int.reduceAdd, Int.reduceSub, Int.le_refl, S.heap, List.length_map, List.getElem?_map, htd, hjl1, hjl2, T.row, Int.natCast_nonneg]
  rw [← e3]
  refine rK_use (enters_of Try.func93 rfl (by decide)) (wuse (R := [s.box, zcell]) (hput) (by simp [ltL, AV.lt]) rfl) ?_
  generalize (sd.setCpu j c).enq j false = s3 at *
  simp only [go_sem, Nat.reduceAdd, Nat.reduceSub, Nat.reduceMul, Nat.reduceEqDiff, Nat.reduceLeDiff, Nat.reduceLT, ↓reduceIte, Int.reduceToNat, reduceCtorEq, Int.cast_ofNat_Int, Int.reduceLT, Int.reduceLE, Int.reduceGT, Int.reduceGE, Int.reduceEq, Int.reduceNe, Int.reduceNeg, Int.reduceAdd, Int.reduceSub, Int.le_refl, S.heap, S.box, zcell]
  subst hpost
  exact .dead 4 (ending2 (s' := s3) (R := [s.box, .dead]) rfl rfl rfl rfl (box_dead s) ⟨rfl, rfl⟩)
theorem NewR_c (n : Nat) (hn : n ≤ 4) (qu : Int) : ACalls Try.prog 72 [iv n, iv qu] [] (fun o H => o = .ret (S.new n qu).av ∧ H = []) := by
  refine ACalls.up ?_
  refine ACalls.intro (cs := []) (n := 21) Try.func72 rfl rfl rfl (by kernel_rfl) rfl ?_
  generalize hpost : (fun (o : Out) (H : Heap) => o = Out.ret (S.new n qu).av ∧ H = []) = post
  simp only [go_sem, Nat.reduceAdd, Nat.reduceSub, Nat.reduceMul, Nat.reduceEqDiff, Nat.reduceLeDiff, Nat.reduceLT, ↓reduceIte, Int.reduceToNat, reduceCtorEq, Int.cast_ofNat_Int, Int.reduceLT, Int.reduceLE, Int.reduceGT, Int.reduceGE, Int.reduceEq, Int.reduceNe, Int.reduceNeg, Int.reduceAdd, Int.reduceSub, Int.le_refl]
  refine loop_fam (fun i : Nat => ((((Ch.nil.put 0 (iv n)).put 4 (.ptr 0 0 0)).put 5 (.ptr 1 0 0)).put 6 (iv i)))
    (fun i => [zcell, .rows 3 [[.sl 2 0 i none, .view true 0 [], iv qu]], .rows 3 ((List.replicate i (⟨-1, 0, []⟩ : Q)).map Q.row)])
    (fun i => n - i) (fun i => i ≤ n) 0 (by kernel_rfl) (Nat.zero_le _) ?_ ?_
  · exact (Wk.slots (by simp [wkS, Ch.get])).trans ((Wk.leH (.cons (.refl _) (.cons (.rows 3 (.cons (.cons (.sl0 0 2 0) (LeL.refl _)) .nil)) .nil))).trans (Wk.ghost (.rows 3 [])))
  rintro i hi K hK
  simp only [go_sem, Nat.reduceAdd, Nat.reduceSub, Nat.reduceMul, Nat.reduceEqDiff, Nat.reduceLeDiff, Nat.reduceLT, ↓reduceIte, Int.reduceToNat, reduceCtorEq, Int.cast_ofNat_Int, Int.reduceLT, Int.reduceLE, Int.reduceGT, Int.reduceGE, Int.reduceEq, Int.reduceNe, Int.reduceNeg, Int.reduceAdd, Int.reduceSub, Int.le_refl, zcell]
  refine condD_dec (fun hg => ?_) (fun hg => ?_)
  · have hi' : i < n := by omega
    have e1 : iw .i64 ((i : Int) + 1) = ((i + 1 : Nat) : Int) := by rw [iw64] <;> omega
    have h1 : i + 1 ≤ 68719476736 := by omega
    have e2 : List.take i (List.map Q.row (List.replicate i (⟨-1, 0, []⟩ : Q))) = (List.replicate i (⟨-1, 0, []⟩ : Q)).map Q.row := List.take_of_length_le (by simp)
    simp only [go_sem, Nat.reduceAdd, Nat.reduceSub, Nat.reduceMul, Nat.reduceEqDiff, Nat.reduceLeDiff, Nat.reduceLT, ↓reduceIte, Int.reduceToNat, reduceCtorEq, Int.cast_ofNat_Int, Int.reduceLT, Int.reduceLE, Int.reduceGT, Int.reduceGE, Int.reduceEq, Int.reduceNe, Int.reduceNeg, Int.reduceAdd, Int.reduceSub, Int.le_refl, h1, e1, List.length_map, List.length_replicate, e2]
    refine hK (i + 1) _ _ hi' (by omega) ?_
    have e3 : (List.replicate (i + 1) (⟨-1, 0, []⟩ : Q)).map Q.row = (List.replicate i (⟨-1, 0, []⟩ : Q)).map Q.row ++ [[iv (-1), iv 0, .view false 1 []]] := by
      rw [List.replicate_succ', List.map_append]; rfl
    have leR : ∀ (l : List (List AV)), LeR (l ++ [[iv (-1), iv 0, .view true 0 []]]) (l ++ [[iv (-1), iv 0, .view false 1 []]]) := fun l => by
      induction l with
      | nil => exact .cons (.cons (.refl _) (.cons (.refl _) (.cons (.nil _ _ _ _ (by simp)) .nil))) .nil
      | cons x l ih => exact .cons (LeL.refl _) ih
    refine (Wk.pick [0, 1, 4] (s' := ((((Ch.nil.put 0 (iv n)).put 4 (.ptr 0 0 0)).put 5 (.ptr 1 0 0)).put 6 (iv ((i + 1 : Nat) : Int)))) (H' := [zcell, .rows 3 [[.sl 2 0 (i + 1) none, .view true 0 [], iv qu]], .rows 3 ((List.replicate i (⟨-1, 0, []⟩ : Q)).map Q.row ++ [[iv (-1), iv 0, .view true 0 []]])]) (by decide) rfl ?_ (by simp [wkP, Ch.get, AV.ren, pi])).trans (Wk.leH (.cons (.refl _) (.cons (.refl _) (.cons (.rows 3 ?_) .nil))))
    · simp only [List.map_cons, List.map_nil, List.getElem?_cons_zero, List.getElem?_cons_succ, List.length_cons, List.length_nil]
      simp [Blk.ren, AV.ren, pi, zcell, Q.row, -List.map_replicate]
    · rw [e3]
      exact leR _
  · have hin : i = n := by omega
    subst hin
    simp only [go_sem, Nat.reduceAdd, Nat.reduceSub, Nat.reduceMul, Nat.reduceEqDiff, Nat.reduceLeDiff, Nat.reduceLT, ↓reduceIte, Int.reduceToNat, reduceCtorEq, Int.cast_ofNat_Int, Int.reduceLT, Int.reduceLE, Int.reduceGT, Int.reduceGE, Int.reduceEq, Int.reduceNe, Int.reduceNeg, Int.reduceAdd, Int.reduceSub, Int.le_refl]
    subst hpost
    have e1 : (List.map Q.row (List.replicate i (⟨-1, 0, []⟩ : Q))).take i = List.map Q.row (List.replicate i (⟨-1, 0, []⟩ : Q)) := List.take_of_length_le (by simp)
    refine Up.kill [0, 1] _ (.fz 2 3 ((List.replicate i (⟨-1, 0, []⟩ : Q)).map Q.row) rfl (fun row hr x hx => ltL_mem (Q.rows_lt _ 0 row hr) x hx) (by simp [Out.fzOk, AV.fzOk, fzOkL]) (by simp [kill, Blk.fzOk]) ?_)
    refine .gc 0 (Nat.le_refl _) (Nat.zero_le _) (by simp [Out.fz, AV.fz, fzL, Out.lt, AV.lt, ltL]) (by simp) ?_
    simp only [Out.fz, AV.fz, fzL, if_true, List.drop_zero, e1]
    exact .le (.ret (.agg (.cons (.refl _) (.cons (.nil _ _ _ _ (by simp)) (.cons (.refl _) .nil))))) (LeH.refl _) (.done ⟨rfl, rfl⟩)
end Go.Proofs.Ytljepmbikbdicaa

set_option maxRecDepth 100000
set_option linter.unusedVariables false
set_option linter.unusedSimpArgs false
namespace Go.Proofs.Ytljepmbikbdicaa
open Go.AM
theorem Same_r (a b : S) : ACalls Try.prog 34 [a.av, b.av] [] (fun o H => o = .ret (.bool (a.same b)) ∧ H = []) := by
  refine ACalls.small fun hsm => ?_
  simp only [S.av, smallL, AV.small, List.length_map, maxLen] at hsm
  refine ACalls.up ?_
  refine ACalls.intro (cs := []) (n := 107) Try.func34 rfl rfl rfl (by kernel_rfl) rfl ?_
  generalize hpost : (fun (o : Out) (H : Heap) => o = Out.ret (.bool (a.same b)) ∧ H = []) = post
  have bad : ∀ H, a ≠ b → Up 0 post (.ret (.bool false)) H := fun H h => fin_b (by
    rw [← hpost]
    have : a.same b = false := by
      cases e : a.same b with
      | false => rfl
      | true => exact absurd ((S.same_iff a b).1 e) h
    rw [this]; exact ⟨rfl, rfl⟩) H
  have good : ∀ H, a = b → Up 0 post (.ret (.bool true)) H := fun H h => fin_b (by
    rw [← hpost, (S.same_iff a b).2 h]; exact ⟨rfl, rfl⟩) H
  clear hpost
  simp only [go_sem, Nat.reduceAdd, Nat.reduceSub, Nat.reduceMul, Nat.reduceEqDiff, Nat.reduceLeDiff, Nat.reduceLT, ↓reduceIte, Int.reduceToNat, reduceCtorEq, Int.cast_ofNat_Int, Int.reduceLT, Int.reduceLE, Int.reduceGT, Int.reduceGE, Int.reduceEq, Int.reduceNe, Int.reduceNeg, Int.reduceAdd, Int.reduceSub, Int.le_refl, S.av]
  rcases Decidable.em (a.quantum = b.quantum) with a1 | a1
  rotate_left
  · simp only [go_sem, Nat.reduceAdd, Nat.reduceSub, Nat.reduceMul, Nat.reduceEqDiff, Nat.reduceLeDiff, Nat.reduceLT, ↓reduceIte, Int.reduceToNat, reduceCtorEq, Int.cast_ofNat_Int, Int.reduceLT, Int.reduceLE, Int.reduceGT, Int.reduceGE, Int.reduceEq, Int.reduceNe, Int.reduceNeg, Int.reduceAdd, Int.reduceSub, Int.le_refl, a1]
    exact bad _ (fun h => a1 (by rw [h]))
  rcases Decidable.em ((a.cpus.length : Int) = b.cpus.length) with a2 | a2
  rotate_left
  · simp only [go_sem, Nat.reduceAdd, Nat.reduceSub, Nat.reduceMul, Nat.reduceEqDiff, Nat.reduceLeDiff, Nat.reduceLT, ↓reduceIte, Int.reduceToNat, reduceCtorEq, Int.cast_ofNat_Int, Int.reduceLT, Int.reduceLE, Int.reduceGT, Int.reduceGE, Int.reduceEq, Int.reduceNe, Int.reduceNeg, Int.reduceAdd, Int.reduceSub, Int.le_refl, a1, a2, List.length_map]
    exact bad _ (fun h => a2 (by rw [h]))
  rcases Decidable.em ((a.thr.length : Int) = b.thr.length) with a3 | a3
  rotate_left
  · simp only [go_sem, Nat.reduceAdd, Nat.reduceSub, Nat.reduceMul, Nat.reduceEqDiff, Nat.reduceLeDiff, Nat.reduceLT, ↓reduceIte, Int.reduceToNat, reduceCtorEq, Int.cast_ofNat_Int, Int.reduceLT, Int.reduceLE, Int.reduceGT, Int.reduceGE, Int.reduceEq, Int.reduceNe, Int.reduceNeg, Int.reduceAdd, Int.reduceSub, Int.le_refl, a1, a2, a3, List.length_map]
    exact bad _ (fun h => a3 (by rw [h]))
  simp only [go_sem, Nat.reduceAdd, Nat.reduceSub, Nat.reduceMul, Nat.reduceEqDiff, Nat.reduceLeDiff, Nat.reduceLT, ↓reduceIte, Int.reduceToNat, reduceCtorEq, Int.cast_ofNat_Int, Int.reduceLT, Int.reduceLE, Int.reduceGT, Int.reduceGE, Int.reduceEq, Int.reduceNe, Int.reduceNeg, Int.reduceAdd, Int.reduceSub, Int.le_refl, a1, a2, a3, List.length_map]
  refine loop_fam (fun i : Nat => (((Ch.nil.put 2 (.ptr 0 0 0)).put 3 (.ptr 1 0 0)).put 5 (iv i)))
    (fun _ => [a.box, b.box]) (fun i => a.thr.length - i) (fun i => i ≤ a.thr.length ∧ a.thr.take i = b.thr.take i) 0 (by kernel_rfl) ⟨Nat.zero_le _, rfl⟩ (Wk.slots' (by rw [S.box, S.box, a1]) (by simp [wkS, Ch.get])) ?_
  rintro i ⟨hi, hx⟩ K hK
  simp only [go_sem, Nat.reduceAdd, Nat.reduceSub, Nat.reduceMul, Nat.reduceEqDiff, Nat.reduceLeDiff, Nat.reduceLT, ↓reduceIte, Int.reduceToNat, reduceCtorEq, Int.cast_ofNat_Int, Int.reduceLT, Int.reduceLE, Int.reduceGT, Int.reduceGE, Int.reduceEq, Int.reduceNe, Int.reduceNeg, Int.reduceAdd, Int.reduceSub, Int.le_refl, S.box, List.length_map]
  refine condD_dec (fun hg => ?_) (fun hg => ?_)
  · have hi1 : i < a.thr.length := by omega
    have hi2 : i < b.thr.length := by omega
    have hi3 : (i : Int) < b.thr.length := by omega
    obtain ⟨x, hx1⟩ := at_lt hi1
    obtain ⟨y, hy1⟩ := at_lt hi2
    have e1 : iw .i64 ((i : Int) + 1) = ((i + 1 : Nat) : Int) := by rw [iw64] <;> omega
    simp only [go_sem, Nat.reduceAdd, Nat.reduceSub, Nat.reduceMul, Nat.reduceEqDiff, Nat.reduceLeDiff, Nat.reduceLT, ↓reduceIte, Int.reduceToNat, reduceCtorEq, Int.cast_ofNat_Int, Int.reduceLT, Int.reduceLE, Int.reduceGT, Int.reduceGE, Int.reduceEq, Int.reduceNe, Int.reduceNeg, Int.reduceAdd, Int.reduceSub, Int.le_refl]
    refine draw [.qu 0 0, .qu 0 0, .qu 0 0, .qu 0 0, .qu 0 0, .qu 0 0, .qu 0 0, .qu 0 0, .qu 0 0, .qu 0 0, .qu 0 0] (by kernel_rfl) (by kernel_rfl) ?_
    simp only [go_sem, Nat.reduceAdd, Nat.reduceSub, Nat.reduceMul, Nat.reduceEqDiff, Nat.reduceLeDiff, Nat.reduceLT, ↓reduceIte, Int.reduceToNat, reduceCtorEq, Int.cast_ofNat_Int, Int.reduceLT, Int.reduceLE, Int.reduceGT, Int.reduceGE, Int.reduceEq, Int.reduceNe, Int.reduceNeg, Int.reduceAdd, Int.reduceSub, Int.le_refl, List.length_map, List.getElem?_map, hx1, hy1, hg, hi1, hi2, hi3, Int.natCast_nonneg, T.row]
    have next : x = y → a.thr.take (i + 1) = b.thr.take (i + 1) := fun h => by rw [List.take_add_one, List.take_add_one, hx, hx1, hy1, h]
    have no : x ≠ y → ∀ H, Up 0 post (.ret (.bool false)) H := fun h H => bad H fun e => h (by rw [e] at hx1; rw [hx1] at hy1; exact Option.some.inj hy1)
    have hval : (decide (x.pri = y.pri) && (decide (x.cpu = y.cpu) && decide (x.st = y.st))) = T.eq x y := rfl
    rw [hval]
    cases hxy : T.eq x y
    · simp only [go_sem, Nat.reduceAdd, Nat.reduceSub, Nat.reduceMul, Nat.reduceEqDiff, Nat.reduceLeDiff, Nat.reduceLT, ↓reduceIte, Int.reduceToNat, reduceCtorEq, Int.cast_ofNat_Int, Int.reduceLT, Int.reduceLE, Int.reduceGT, Int.reduceGE, Int.reduceEq, Int.reduceNe, Int.reduceNeg, Int.reduceAdd, Int.reduceSub, Int.le_refl]
      exact no (fun h => by rw [(T.eq_iff x y).2 h] at hxy; cases hxy) _
    · simp only [go_sem, Nat.reduceAdd, Nat.reduceSub, Nat.reduceMul, Nat.reduceEqDiff, Nat.reduceLeDiff, Nat.reduceLT, ↓reduceIte, Int.reduceToNat, reduceCtorEq, Int.cast_ofNat_Int, Int.reduceLT, Int.reduceLE, Int.reduceGT, Int.reduceGE, Int.reduceEq, Int.reduceNe, Int.reduceNeg, Int.reduceAdd, Int.reduceSub, Int.le_refl, e1]
      exact hK (i + 1) _ _ ⟨hi1, next ((T.eq_iff x y).1 hxy)⟩ (by omega) (Wk.slots' rfl (by simp [wkS, Ch.get]))
  have hthr : a.thr = b.thr := by
    rw [List.take_of_length_le (by omega), List.take_of_length_le (by omega)] at hx
    exact hx
  clear hK
  simp only [go_sem, Nat.reduceAdd, Nat.reduceSub, Nat.reduceMul, Nat.reduceEqDiff, Nat.reduceLeDiff, Nat.reduceLT, ↓reduceIte, Int.reduceToNat, reduceCtorEq, Int.cast_ofNat_Int, Int.reduceLT, Int.reduceLE, Int.reduceGT, Int.reduceGE, Int.reduceEq, Int.reduceNe, Int.reduceNeg, Int.reduceAdd, Int.reduceSub, Int.le_refl]
  refine loop_fam (fun i : Nat => (((Ch.nil.put 2 (.ptr 0 0 0)).put 3 (.ptr 1 0 0)).put 6 (iv i)))
    (fun _ => [a.box, b.box]) (fun i => a.cpus.length - i) (fun i => i ≤ a.cpus.length ∧ a.cpus.take i = b.cpus.take i) 0 (by kernel_rfl) ⟨Nat.zero_le _, rfl⟩ (Wk.slots' rfl (by simp [wkS, Ch.get])) ?_
  rintro c ⟨hc, hx2⟩ K hK
  simp only [go_sem, Nat.reduceAdd, Nat.reduceSub, Nat.reduceMul, Nat.reduceEqDiff, Nat.reduceLeDiff, Nat.reduceLT, ↓reduceIte, Int.reduceToNat, reduceCtorEq, Int.cast_ofNat_Int, Int.reduceLT, Int.reduceLE, Int.reduceGT, Int.reduceGE, Int.reduceEq, Int.reduceNe, Int.reduceNeg, Int.reduceAdd, Int.reduceSub, Int.le_refl, S.box, List.length_map]
  refine condD_dec (fun hg2 => ?_) (fun hg2 => ?_)
  rotate_left
  · simp only [go_sem, Nat.reduceAdd, Nat.reduceSub, Nat.reduceMul, Nat.reduceEqDiff, Nat.reduceLeDiff, Nat.reduceLT, ↓reduceIte, Int.reduceToNat, reduceCtorEq, Int.cast_ofNat_Int, Int.reduceLT, Int.reduceLE, Int.reduceGT, Int.reduceGE, Int.reduceEq, Int.reduceNe, Int.reduceNeg, Int.reduceAdd, Int.reduceSub, Int.le_refl]
    refine good _ ?_
    rw [List.take_of_length_le (by omega), List.take_of_length_le (by omega)] at hx2
    obtain ⟨x1, x2, x3⟩ := a
    obtain ⟨y1, y2, y3⟩ := b
    simp only at hx2 hthr a1
    rw [hx2, hthr, a1]
  have hi1 : c < a.cpus.length := by omega
  have hi2 : c < b.cpus.length := by omega
  have hi3 : (c : Int) < b.cpus.length := by omega
  obtain ⟨x, hx1⟩ := at_lt hi1
  obtain ⟨y, hy1⟩ := at_lt hi2
  have e1 : iw .i64 ((c : Int) + 1) = ((c + 1 : Nat) : Int) := by rw [iw64] <;> omega
  have next : x = y → a.cpus.take (c + 1) = b.cpus.take (c + 1) := fun h => by rw [List.take_add_one, List.take_add_one, hx2, hx1, hy1, h]
  have no : x ≠ y → ∀ H, Up 0 post (.ret (.bool false)) H := fun h H => bad H fun e => h (by rw [e] at hx1; rw [hx1] at hy1; exact Option.some.inj hy1)
  have hxr : x.ready.length ≤ 2 ^ 63 - 1 := by
    have := (smallL_mem (smallR_mem hsm.1.1.2 _ (List.mem_map_of_mem (List.mem_of_getElem? hx1))) (.view false 1 (x.ready.map r1)) (by simp [Q.row]))
    simp only [AV.small, List.length_map, maxLen] at this
    exact this.1
  simp only [go_sem, Nat.reduceAdd, Nat.reduceSub, Nat.reduceMul, Nat.reduceEqDiff, Nat.reduceLeDiff, Nat.reduceLT, ↓reduceIte, Int.reduceToNat, reduceCtorEq, Int.cast_ofNat_Int, Int.reduceLT, Int.reduceLE, Int.reduceGT, Int.reduceGE, Int.reduceEq, Int.reduceNe, Int.reduceNeg, Int.reduceAdd, Int.reduceSub, Int.le_refl, List.length_map, List.getElem?_map, hx1, hy1, hg2, hi1, hi2, hi3, Int.natCast_nonneg, Q.row]
  rcases Decidable.em (x.run = y.run) with b1 | b1
  rotate_left
  · simp only [go_sem, Nat.reduceAdd, Nat.reduceSub, Nat.reduceMul, Nat.reduceEqDiff, Nat.reduceLeDiff, Nat.reduceLT, ↓reduceIte, Int.reduceToNat, reduceCtorEq, Int.cast_ofNat_Int, Int.reduceLT, Int.reduceLE, Int.reduceGT, Int.reduceGE, Int.reduceEq, Int.reduceNe, Int.reduceNeg, Int.reduceAdd, Int.reduceSub, Int.le_refl, b1]
    exact no (fun h => b1 (by rw [h])) _
  rcases Decidable.em (x.left = y.left) with b2 | b2
  rotate_left
  · simp only [go_sem, Nat.reduceAdd, Nat.reduceSub, Nat.reduceMul, Nat.reduceEqDiff, Nat.reduceLeDiff, Nat.reduceLT, ↓reduceIte, Int.reduceToNat, reduceCtorEq, Int.cast_ofNat_Int, Int.reduceLT, Int.reduceLE, Int.reduceGT, Int.reduceGE, Int.reduceEq, Int.reduceNe, Int.reduceNeg, Int.reduceAdd, Int.reduceSub, Int.le_refl, b1, b2]
    exact no (fun h => b2 (by rw [h])) _
  rcases Decidable.em ((x.ready.length : Int) = y.ready.length) with b3 | b3
  rotate_left
  · simp only [go_sem, Nat.reduceAdd, Nat.reduceSub, Nat.reduceMul, Nat.reduceEqDiff, Nat.reduceLeDiff, Nat.reduceLT, ↓reduceIte, Int.reduceToNat, reduceCtorEq, Int.cast_ofNat_Int, Int.reduceLT, Int.reduceLE, Int.reduceGT, Int.reduceGE, Int.reduceEq, Int.reduceNe, Int.reduceNeg, Int.reduceAdd, Int.reduceSub, Int.le_refl, b1, b2, b3, List.length_map]
    exact no (fun h => b3 (by rw [h])) _
  simp only [go_sem, Nat.reduceAdd, Nat.reduceSub, Nat.reduceMul, Nat.reduceEqDiff, Nat.reduceLeDiff, Nat.reduceLT, ↓reduceIte, Int.reduceToNat, reduceCtorEq, Int.cast_ofNat_Int, Int.reduceLT, Int.reduceLE, Int.reduceGT, Int.reduceGE, Int.reduceEq, Int.reduceNe, Int.reduceNeg, Int.reduceAdd, Int.reduceSub, Int.le_refl, b1, b2, b3, List.length_map]
  refine loop_fam (fun k : Nat => ((((((Ch.nil.put 2 (.ptr 0 0 0)).put 3 (.ptr 1 0 0)).put 6 (iv c)).put 7 (.ptr 2 0 0)).put 8 (.ptr 3 0 0)).put 9 (iv k)))
    (fun _ => [a.box, b.box, .rows 3 [x.row], .rows 3 [y.row]]) (fun k => x.ready.length - k) (fun k => k ≤ x.ready.length ∧ x.ready.take k = y.ready.take k) 0 (by kernel_rfl) ⟨Nat.zero_le _, rfl⟩ (Wk.slots' (by simp [S.box, Q.row, b1, b2]) (by simp [wkS, Ch.get])) ?_
  rintro k ⟨hk, hx3⟩ K2 hK2
  simp only [go_sem, Nat.reduceAdd, Nat.reduceSub, Nat.reduceMul, Nat.reduceEqDiff, Nat.reduceLeDiff, Nat.reduceLT, ↓reduceIte, Int.reduceToNat, reduceCtorEq, Int.cast_ofNat_Int, Int.reduceLT, Int.reduceLE, Int.reduceGT, Int.reduceGE, Int.reduceEq, Int.reduceNe, Int.reduceNeg, Int.reduceAdd, Int.reduceSub, Int.le_refl, S.box, List.length_map, Q.row]
  refine condD_dec (fun hg3 => ?_) (fun hg3 => ?_)
  · have j1 : k < x.ready.length := by omega
    have j2 : k < y.ready.length := by omega
    have j3 : (k : Int) < y.ready.length := by omega
    obtain ⟨u, hu⟩ := at_lt j1
    obtain ⟨v, hv⟩ := at_lt j2
    have e2 : iw .i64 ((k : Int) + 1) = ((k + 1 : Nat) : Int) := by rw [iw64] <;> omega
    simp only [go_sem, Nat.reduceAdd, Nat.reduceSub, Nat.reduceMul, Nat.reduceEqDiff, Nat.reduceLeDiff, Nat.reduceLT, ↓reduceIte, Int.reduceToNat, reduceCtorEq, Int.cast_ofNat_Int, Int.reduceLT, Int.reduceLE, Int.reduceGT, Int.reduceGE, Int.reduceEq, Int.reduceNe, Int.reduceNeg, Int.reduceAdd, Int.reduceSub, Int.le_refl]
    refine draw [.qu 0 0, .qu 0 0, .qu 0 0, .qu 0 0, .qu 0 0, .qu 0 0, .qu 0 0, .qu 0 0, .qu 0 0, .qu 0 0, .qu 0 0] (by kernel_rfl) (by kernel_rfl) ?_
    simp only [go_sem, Nat.reduceAdd, Nat.reduceSub, Nat.reduceMul, Nat.reduceEqDiff, Nat.reduceLeDiff, Nat.reduceLT, ↓reduceIte, Int.reduceToNat, reduceCtorEq, Int.cast_ofNat_Int, Int.reduceLT, Int.reduceLE, Int.reduceGT, Int.reduceGE, Int.reduceEq, Int.reduceNe, Int.reduceNeg, Int.reduceAdd, Int.reduceSub, Int.le_refl, List.length_map, List.getElem?_map, hu, hv, hg3, j1, j2, j3, Int.natCast_nonneg]
    rcases Decidable.em (u = v) with h | h
    · simp only [go_sem, Nat.reduceAdd, Nat.reduceSub, Nat.reduceMul, Nat.reduceEqDiff, Nat.reduceLeDiff, Nat.reduceLT, ↓reduceIte, Int.reduceToNat, reduceCtorEq, Int.cast_ofNat_Int, Int.reduceLT, Int.reduceLE, Int.reduceGT, Int.reduceGE, Int.reduceEq, Int.reduceNe, Int.reduceNeg, Int.reduceAdd, Int.reduceSub, Int.le_refl, h, e2]
      exact hK2 (k + 1) _ _ ⟨j1, by rw [List.take_add_one, List.take_add_one, hx3, hu, hv, h]⟩ (by omega) (Wk.slots' rfl (by simp [wkS, Ch.get]))
    · simp only [go_sem, Nat.reduceAdd, Nat.reduceSub, Nat.reduceMul, Nat.reduceEqDiff, Nat.reduceLeDiff, Nat.reduceLT, ↓reduceIte, Int.reduceToNat, reduceCtorEq, Int.cast_ofNat_Int, Int.reduceLT, Int.reduceLE, Int.reduceGT, Int.reduceGE, Int.reduceEq, Int.reduceNe, Int.reduceNeg, Int.reduceAdd, Int.reduceSub, Int.le_refl, h]
      exact no (fun e => h (by rw [e] at hu; rw [hu] at hv; exact Option.some.inj hv)) _
  · have hxy : x = y := by
      rw [List.take_of_length_le (by omega), List.take_of_length_le (by omega)] at hx3
      obtain ⟨x1, x2, x3⟩ := x
      obtain ⟨y1, y2, y3⟩ := y
      simp only at hx3 b1 b2
      rw [hx3, b1, b2]
    simp only [go_sem, Nat.reduceAdd, Nat.reduceSub, Nat.reduceMul, Nat.reduceEqDiff, Nat.reduceLeDiff, Nat.reduceLT, ↓reduceIte, Int.reduceToNat, reduceCtorEq, Int.cast_ofNat_Int, Int.reduceLT, Int.reduceLE, Int.reduceGT, Int.reduceGE, Int.reduceEq, Int.reduceNe, Int.reduceNeg, Int.reduceAdd, Int.reduceSub, Int.le_refl, e1]
    exact hK (c + 1) _ _ ⟨hi1, next hxy⟩ (by omega) (Wk.drop (m := 2) (by simp [wkS, Ch.get]) (by decide) (by simp) (by simp [chLt, AV.lt]) rfl (by simp [Blk.lt, ltL, AV.lt, S.box]))
/-! ### results -/
def outAV (s : S) (n : Int) (is : Bool) (e : Int) : AV := .agg [.view false 3 (s.cpus.map Q.row), .view false 3 (s.thr.map T.row), iv s.quantum, iv n, .bool is, iv e]
theorem outAV_lt (s : S) (n : Int) (is : Bool) (e : Int) (m : Nat) : (outAV s n is e).lt m = true := by simp [outAV, AV.lt, ltL]
theorem fin1 {post : CQ} {s : S} {n e : Int} {is : Bool} (h : post (.ret (outAV s n is e)) []) (H : Heap) : Up 0 post (.ret (outAV s n is e)) H := .gc 0 (Nat.le_refl _) (Nat.zero_le _) (by simp [Out.lt, outAV_lt]) (by simp) (.done h)
theorem fin0 {post : CQ} {e : Int} (h : post (.ret (outAV S.zero 0 false e)) []) (H : Heap) : Up 0 post (.ret (.agg [.view true 0 [], .view true 0 [], iv 0, iv 0, .bool false, iv e])) H :=
  .gc 0 (Nat.le_refl _) (Nat.zero_le _) (by simp [Out.lt, AV.lt, ltL]) (by simp) (.le (.ret (.agg (.cons (.nil _ _ _ _ (by simp)) (.cons (.nil _ _ _ _ (by simp)) (LeL.refl _))))) (LeH.refl _) (.done h))
theorem same_c (s t : S) (n m : Int) (is js : Bool) (e f : Int) : ACalls Try.prog 23 [s.av, iv n, .bool is, iv e, outAV t m js f] [] (fun o H => o = .ret (.bool (decide (e = f) && decide (n = m) && (is == js) && s.same t)) ∧ H = []) := by
  refine ACalls.up ?_
  refine ACalls.intro (cs := []) (n := 33) Try.func23 rfl rfl rfl (by kernel_rfl) rfl ?_
  generalize hpost : (fun (o : Out) (H : Heap) => o = Out.ret (.bool (decide (e = f) && decide (n = m) && (is == js) && s.same t)) ∧ H = []) = post
  have fin : ∀ b H, b = (decide (e = f) && decide (n = m) && (is == js) && s.same t) → Up 0 post (.ret (.bool b)) H := fun b H e => fin_b (by rw [← hpost, e]; exact ⟨rfl, rfl⟩) H
  simp only [go_sem, Nat.reduceAdd, Nat.reduceSub, Nat.reduceMul, Nat.reduceEqDiff, Nat.reduceLeDiff, Nat.reduceLT, ↓reduceIte, Int.reduceToNat, reduceCtorEq, Int.cast_ofNat_Int, Int.reduceLT, Int.reduceLE, Int.reduceGT, Int.reduceGE, Int.reduceEq, Int.reduceNe, Int.reduceNeg, Int.reduceAdd, Int.reduceSub, Int.le_refl, S.av, outAV]
  rcases Decidable.em (e = f) with b1 | b1
  rotate_left
  · simp only [go_sem, Nat.reduceAdd, Nat.reduceSub, Nat.reduceMul, Nat.reduceEqDiff, Nat.reduceLeDiff, Nat.reduceLT, ↓reduceIte, Int.reduceToNat, reduceCtorEq, Int.cast_ofNat_Int, Int.reduceLT, Int.reduceLE, Int.reduceGT, Int.reduceGE, Int.reduceEq, Int.reduceNe, Int.reduceNeg, Int.reduceAdd, Int.reduceSub, Int.le_refl, b1]
    exact fin _ _ (by simp [b1])
  rcases Decidable.em (n = m) with b2 | b2
  rotate_left
  · simp only [go_sem, Nat.reduceAdd, Nat.reduceSub, Nat.reduceMul, Nat.reduceEqDiff, Nat.reduceLeDiff, Nat.reduceLT, ↓reduceIte, Int.reduceToNat, reduceCtorEq, Int.cast_ofNat_Int, Int.reduceLT, Int.reduceLE, Int.reduceGT, Int.reduceGE, Int.reduceEq, Int.reduceNe, Int.reduceNeg, Int.reduceAdd, Int.reduceSub, Int.le_refl, b1, b2]
    exact fin _ _ (by simp [b2])
  cases b3 : is == js
  · simp only [go_sem, Nat.reduceAdd, Nat.reduceSub, Nat.reduceMul, Nat.reduceEqDiff, Nat.reduceLeDiff, Nat.reduceLT, ↓reduceIte, Int.reduceToNat, reduceCtorEq, Int.cast_ofNat_Int, Int.reduceLT, Int.reduceLE, Int.reduceGT, Int.reduceGE, Int.reduceEq, Int.reduceNe, Int.reduceNeg, Int.reduceAdd, Int.reduceSub, Int.le_refl, b1, b2, b3]
    exact fin _ _ (by simp [b3])
  simp only [go_sem, Nat.reduceAdd, Nat.reduceSub, Nat.reduceMul, Nat.reduceEqDiff, Nat.reduceLeDiff, Nat.reduceLT, ↓reduceIte, Int.reduceToNat, reduceCtorEq, Int.cast_ofNat_Int, Int.reduceLT, Int.reduceLE, Int.reduceGT, Int.reduceGE, Int.reduceEq, Int.reduceNe, Int.reduceNeg, Int.reduceAdd, Int.reduceSub, Int.le_refl, b1, b2, b3]
  refine rK_use (enters_of Try.func34 rfl (by decide)) (ACalls.pure_use (Same_r s t) rfl rfl) ?_
  simp only [go_sem, Nat.reduceAdd, Nat.reduceSub, Nat.reduceMul, Nat.reduceEqDiff, Nat.reduceLeDiff, Nat.reduceLT, ↓reduceIte, Int.reduceToNat, reduceCtorEq, Int.cast_ofNat_Int, Int.reduceLT, Int.reduceLE, Int.reduceGT, Int.reduceGE, Int.reduceEq, Int.reduceNe, Int.reduceNeg, Int.reduceAdd, Int.reduceSub, Int.le_refl]
  exact fin _ _ (by simp [b1, b2, b3])
/-! ### errors -/
def S.fCpu (s : S) (n : Int) : Int := if s.valid = true then if (s.cp n).isSome then 0 else 52 else 50
theorem ofCpu_c (s : S) (n : Int) : ACalls Try.prog 62 [s.av, iv n] [] (fun o H => o = .ret (iv (s.fCpu n)) ∧ H = []) := by
  refine ACalls.up ?_
  refine ACalls.intro (cs := []) (n := 12) Try.func62 rfl rfl rfl (by kernel_rfl) rfl ?_
  generalize hpost : (fun (o : Out) (H : Heap) => o = Out.ret (iv (s.fCpu n)) ∧ H = []) = post
  have fin : ∀ b H, b = s.fCpu n → Up 0 post (.ret (iv b)) H := fun b H e => fin_i (by rw [← hpost, e]; exact ⟨rfl, rfl⟩) H
  simp only [go_sem, Nat.reduceAdd, Nat.reduceSub, Nat.reduceMul, Nat.reduceEqDiff, Nat.reduceLeDiff, Nat.reduceLT, ↓reduceIte, Int.reduceToNat, reduceCtorEq, Int.cast_ofNat_Int, Int.reduceLT, Int.reduceLE, Int.reduceGT, Int.reduceGE, Int.reduceEq, Int.reduceNe, Int.reduceNeg, Int.reduceAdd, Int.reduceSub, Int.le_refl, S.av]
  refine rK_use (enters_of Try.func30 rfl (by decide)) (ACalls.pure_use (Check_r s) rfl rfl) ?_
  rcases Decidable.em (s.valid = true) with hv | hv
  rotate_left
  · rw [if_neg hv]
    simp only [go_sem, Nat.reduceAdd, Nat.reduceSub, Nat.reduceMul, Nat.reduceEqDiff, Nat.reduceLeDiff, Nat.reduceLT, ↓reduceIte, Int.reduceToNat, reduceCtorEq, Int.cast_ofNat_Int, Int.reduceLT, Int.reduceLE, Int.reduceGT, Int.reduceGE, Int.reduceEq, Int.reduceNe, Int.reduceNeg, Int.reduceAdd, Int.reduceSub, Int.le_refl]
    exact fin _ _ (by rw [S.fCpu, if_neg hv])
  rw [if_pos hv]
  simp only [go_sem, Nat.reduceAdd, Nat.reduceSub, Nat.reduceMul, Nat.reduceEqDiff, Nat.reduceLeDiff, Nat.reduceLT, ↓reduceIte, Int.reduceToNat, reduceCtorEq, Int.cast_ofNat_Int, Int.reduceLT, Int.reduceLE, Int.reduceGT, Int.reduceGE, Int.reduceEq, Int.reduceNe, Int.reduceNeg, Int.reduceAdd, Int.reduceSub, Int.le_refl]
  refine rK_use (enters_of Try.func69 rfl (by decide)) (ACalls.pure_use (cpu_r s n) rfl rfl) ?_
  rcases Decidable.em (0 ≤ n ∧ n < s.cpus.length) with a1 | a1
  · rw [decide_eq_true a1]
    have : (s.cp n).isSome = true := by simp [S.cp, a1.1]; omega
    simp only [go_sem, Nat.reduceAdd, Nat.reduceSub, Nat.reduceMul, Nat.reduceEqDiff, Nat.reduceLeDiff, Nat.reduceLT, ↓reduceIte, Int.reduceToNat, reduceCtorEq, Int.cast_ofNat_Int, Int.reduceLT, Int.reduceLE, Int.reduceGT, Int.reduceGE, Int.reduceEq, Int.reduceNe, Int.reduceNeg, Int.reduceAdd, Int.reduceSub, Int.le_refl]
    exact fin _ _ (by rw [S.fCpu, if_pos hv, if_pos this])
  · rw [decide_eq_false a1]
    have : ¬ (s.cp n).isSome = true := by
      unfold S.cp
      split
      · simp; omega
      · simp
    simp only [go_sem, Nat.reduceAdd, Nat.reduceSub, Nat.reduceMul, Nat.reduceEqDiff, Nat.reduceLeDiff, Nat.reduceLT, ↓reduceIte, Int.reduceToNat, reduceCtorEq, Int.cast_ofNat_Int, Int.reduceLT, Int.reduceLE, Int.reduceGT, Int.reduceGE, Int.reduceEq, Int.reduceNe, Int.reduceNeg, Int.reduceAdd, Int.reduceSub, Int.le_refl]
    exact fin _ _ (by rw [S.fCpu, if_pos hv, if_neg this])
def S.fThr (s : S) (n a b c : Int) : Int := if s.valid = true then match s.th n with
  | some t => if t.st = a ∨ t.st = b ∨ t.st = c then 0 else 51
  | none => 51
  else 50
theorem ofThread_c (s : S) (n a b c : Int) : ACalls Try.prog 64 [s.av, iv n, iv a, iv b, iv c] [] (fun o H => o = .ret (iv (s.fThr n a b c)) ∧ H = []) := by
  refine ACalls.up ?_
  refine ACalls.intro (cs := []) (n := 38) Try.func64 rfl rfl rfl (by kernel_rfl) rfl ?_
  generalize hpost : (fun (o : Out) (H : Heap) => o = Out.ret (iv (s.fThr n a b c)) ∧ H = []) = post
  have fin : ∀ b' H, b' = s.fThr n a b c → Up 0 post (.ret (iv b')) H := fun b' H e => fin_i (by rw [← hpost, e]; exact ⟨rfl, rfl⟩) H
  simp only [go_sem, Nat.reduceAdd, Nat.reduceSub, Nat.reduceMul, Nat.reduceEqDiff, Nat.reduceLeDiff, Nat.reduceLT, ↓reduceIte, Int.reduceToNat, reduceCtorEq, Int.cast_ofNat_Int, Int.reduceLT, Int.reduceLE, Int.reduceGT, Int.reduceGE, Int.reduceEq, Int.reduceNe, Int.reduceNeg, Int.reduceAdd, Int.reduceSub, Int.le_refl, S.av]
  refine rK_use (enters_of Try.func30 rfl (by decide)) (ACalls.pure_use (Check_r s) rfl rfl) ?_
  rcases Decidable.em (s.valid = true) with hv | hv
  rotate_left
  · rw [if_neg hv]
    simp only [go_sem, Nat.reduceAdd, Nat.reduceSub, Nat.reduceMul, Nat.reduceEqDiff, Nat.reduceLeDiff, Nat.reduceLT, ↓reduceIte, Int.reduceToNat, reduceCtorEq, Int.cast_ofNat_Int, Int.reduceLT, Int.reduceLE, Int.reduceGT, Int.reduceGE, Int.reduceEq, Int.reduceNe, Int.reduceNeg, Int.reduceAdd, Int.reduceSub, Int.le_refl]
    exact fin _ _ (by rw [S.fThr, if_neg hv])
  rw [if_pos hv]
  simp only [go_sem, Nat.reduceAdd, Nat.reduceSub, Nat.reduceMul, Nat.reduceEqDiff, Nat.reduceLeDiff, Nat.reduceLT, ↓reduceIte, Int.reduceToNat, reduceCtorEq, Int.cast_ofNat_Int, Int.reduceLT, Int.reduceLE, Int.reduceGT, Int.reduceGE, Int.reduceEq, Int.reduceNe, Int.reduceNeg, Int.reduceAdd, Int.reduceSub, Int.le_refl]
  refine rK_use (enters_of Try.func94 rfl (by decide)) (ACalls.pure_use (thread_c s n) rfl rfl) ?_
  rcases Decidable.em (0 ≤ n ∧ n < s.thr.length) with a1 | a1
  · rw [decide_eq_true a1]
    obtain ⟨i, rfl⟩ : ∃ i : Nat, n = i := ⟨n.toNat, by omega⟩
    have hl : i < s.thr.length := by omega
    obtain ⟨t, ht⟩ := at_lt hl
    have hth : s.th i = some t := by rw [th_nat, ht]
    have hf : s.fThr i a b c = if t.st = a ∨ t.st = b ∨ t.st = c then 0 else 51 := by rw [S.fThr, if_pos hv, hth]
    simp only [go_sem, Nat.reduceAdd, Nat.reduceSub, Nat.reduceMul, Nat.reduceEqDiff, Nat.reduceLeDiff, Nat.reduceLT, ↓reduceIte, Int.reduceToNat, reduceCtorEq, Int.cast_ofNat_Int, Int.reduceLT, Int.reduceLE, Int.reduceGT, Int.reduceGE, Int.reduceEq, Int.reduceNe, Int.reduceNeg, Int.reduceAdd, Int.reduceSub, Int.le_refl, List.length_map, List.getElem?_map, ht, hl, a1.2, Int.natCast_nonneg, T.row]
    rcases Decidable.em (t.st = a) with c1 | c1
    · simp only [go_sem, Nat.reduceAdd, Nat.reduceSub, Nat.reduceMul, Nat.reduceEqDiff, Nat.reduceLeDiff, Nat.reduceLT, ↓reduceIte, Int.reduceToNat, reduceCtorEq, Int.cast_ofNat_Int, Int.reduceLT, Int.reduceLE, Int.reduceGT, Int.reduceGE, Int.reduceEq, Int.reduceNe, Int.reduceNeg, Int.reduceAdd, Int.reduceSub, Int.le_refl, c1]
      exact fin _ _ (by rw [hf, if_pos (.inl c1)])
    rcases Decidable.em (t.st = b) with c2 | c2
    · have c1' : ¬ b = a := by omega
      simp only [go_sem, Nat.reduceAdd, Nat.reduceSub, Nat.reduceMul, Nat.reduceEqDiff, Nat.reduceLeDiff, Nat.reduceLT, ↓reduceIte, Int.reduceToNat, reduceCtorEq, Int.cast_ofNat_Int, Int.reduceLT, Int.reduceLE, Int.reduceGT, Int.reduceGE, Int.reduceEq, Int.reduceNe, Int.reduceNeg, Int.reduceAdd, Int.reduceSub, Int.le_refl, c1', c2]
      exact fin _ _ (by rw [hf, if_pos (.inr (.inl c2))])
    rcases Decidable.em (t.st = c) with c3 | c3
    · have c1' : ¬ c = a := by omega
      have c2' : ¬ c = b := by omega
      simp only [go_sem, Nat.reduceAdd, Nat.reduceSub, Nat.reduceMul, Nat.reduceEqDiff, Nat.reduceLeDiff, Nat.reduceLT, ↓reduceIte, Int.reduceToNat, reduceCtorEq, Int.cast_ofNat_Int, Int.reduceLT, Int.reduceLE, Int.reduceGT, Int.reduceGE, Int.reduceEq, Int.reduceNe, Int.reduceNeg, Int.reduceAdd, Int.reduceSub, Int.le_refl, c1', c2', c3]
      exact fin _ _ (by rw [hf, if_pos (.inr (.inr c3))])
    · simp only [go_sem, Nat.reduceAdd, Nat.reduceSub, Nat.reduceMul, Nat.reduceEqDiff, Nat.reduceLeDiff, Nat.reduceLT, ↓reduceIte, Int.reduceToNat, reduceCtorEq, Int.cast_ofNat_Int, Int.reduceLT, Int.reduceLE, Int.reduceGT, Int.reduceGE, Int.reduceEq, Int.reduceNe, Int.reduceNeg, Int.reduceAdd, Int.reduceSub, Int.le_refl, c1, c2, c3]
      exact fin _ _ (by rw [hf, if_neg (by omega)])
  · rw [decide_eq_false a1]
    have : s.th n = none := by
      unfold S.th
      split
      · rw [List.getElem?_eq_none_iff]; omega
      · rfl
    simp only [go_sem, Nat.reduceAdd, Nat.reduceSub, Nat.reduceMul, Nat.reduceEqDiff, Nat.reduceLeDiff, Nat.reduceLT, ↓reduceIte, Int.reduceToNat, reduceCtorEq, Int.cast_ofNat_Int, Int.reduceLT, Int.reduceLE, Int.reduceGT, Int.reduceGE, Int.reduceEq, Int.reduceNe, Int.reduceNeg, Int.reduceAdd, Int.reduceSub, Int.le_refl]
    exact fin _ _ (by rw [S.fThr, if_pos hv, this])
end Go.Proofs.Ytljepmbikbdicaa
