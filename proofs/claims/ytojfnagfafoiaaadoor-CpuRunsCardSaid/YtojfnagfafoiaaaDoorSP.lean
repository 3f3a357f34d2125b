/- cpu: the reference's Apply, and the statement CpuApplies. No condition. -/
import Derived.Test.YtojfnagfafoiaaaDoorSO
set_option maxRecDepth 100000
set_option linter.unusedVariables false
set_option linter.unusedSimpArgs false
namespace Go.Proofs.YtojfnagfafoiaaaDoor
open Go.AM
theorem wr_set {s : Sp} {p i : Nat} {d : List UInt8} {c : UInt8} (h : p + d.length ≤ s.byt.length) (hc : d[i]? = some c) : (s.wr p (d.take i)).byt.set (p + i) c = (s.wr p (d.take (i + 1))).byt := by
  have hi := (List.getElem?_eq_some_iff.1 hc).1
  have e1 : (d.take i).length = i := by simp; omega
  have e2 : (d.take (i + 1)).length = i + 1 := by simp; omega
  have e3 : (s.byt.take p).length = p := by simp; omega
  simp only [Sp.wr, e1, e2]
  rw [List.set_append_right _ _ (by rw [List.length_append, e1, e3]; exact Nat.le_refl _), List.length_append, e1, e3, Nat.sub_self]
  obtain ⟨x, hx⟩ : ∃ x, s.byt.drop (p + i) = x :: s.byt.drop (p + (i + 1)) := by
    refine ⟨s.byt[p + i]'(by omega), ?_⟩
    rw [← Nat.add_assoc]
    exact List.drop_eq_getElem_cons (by omega)
  rw [hx, List.set_cons_zero, List.take_add_one, hc]
  simp
def sameS (a b : Sp) : Bool := decide (a.perm = b.perm) && decide (a.byt = b.byt)
theorem sameS_self (a : Sp) : sameS a a = true := by simp [sameS]
theorem rsamep_c (a b : Sp) (ha : a.perm.length ≤ 1000000000) : ACalls Tryd.prog 81 [a.av, b.av] [] (fun o H => o = .ret (.bool (decide (a.perm = b.perm))) ∧ H = []) := by
  refine ACalls.up ?_
  refine ACalls.intro (cs := []) (n := 31) Tryd.func81 rfl rfl rfl (by kernel_rfl) rfl ?_
  generalize hpost : (fun (o : Out) (H : Heap) => o = Out.ret (.bool (decide (a.perm = b.perm))) ∧ H = []) = post
  have fin : ∀ v H, v = decide (a.perm = b.perm) → Up 0 post (.ret (.bool v)) H := fun v H h => finv rfl (by rw [← hpost, ← h]; exact ⟨rfl, rfl⟩) H
  simp only [go_sem,Nat.reduceAdd,Nat.reduceSub,Nat.reduceMul,Nat.reduceEqDiff,Nat.reduceLeDiff,Nat.reduceLT,↓reduceIte,Int.reduceToNat,reduceCtorEq,Int.reduceLT,Int.reduceLE,Int.reduceGT,Int.reduceGE,Int.reduceEq,Int.reduceNe,Int.reduceNeg,Int.reduceAdd,Int.reduceSub,Sp.av,List.length_map]
  rcases Decidable.em ((a.perm.length : Int) = b.perm.length) with hl | hl
  rotate_left
  · simp only [go_sem,Nat.reduceAdd,Nat.reduceSub,Nat.reduceMul,Nat.reduceEqDiff,Nat.reduceLeDiff,Nat.reduceLT,↓reduceIte,Int.reduceToNat,reduceCtorEq,Int.reduceLT,Int.reduceLE,Int.reduceGT,Int.reduceGE,Int.reduceEq,Int.reduceNe,Int.reduceNeg,Int.reduceAdd,Int.reduceSub,eq_false hl]
    exact fin false _ (decide_eq_false fun h => hl (by rw [h])).symm
  simp only [go_sem,Nat.reduceAdd,Nat.reduceSub,Nat.reduceMul,Nat.reduceEqDiff,Nat.reduceLeDiff,Nat.reduceLT,↓reduceIte,Int.reduceToNat,reduceCtorEq,Int.reduceLT,Int.reduceLE,Int.reduceGT,Int.reduceGE,Int.reduceEq,Int.reduceNe,Int.reduceNeg,Int.reduceAdd,Int.reduceSub,eq_true hl]
  refine loop_fam (fun i : Nat => ((((Ch.nil.put 2 (.ptr 0 0 0)).put 3 (.ptr 1 0 0)).put 5 (iv i)))) (fun _ => [.rows 2 [[.view false 1 (a.perm.map r1), .view false 1 (a.byt.map rb)]], .rows 2 [[.view false 1 (b.perm.map r1), .view false 1 (b.byt.map rb)]]])
    (fun i => a.perm.length - i) (fun i => i ≤ a.perm.length ∧ a.perm.take i = b.perm.take i) 0 (by kernel_rfl) ⟨Nat.zero_le _, by simp⟩ (Wk.slots' rfl (by simp [wkS, Ch.get])) ?_
  rintro i ⟨hi, hsm⟩ K hK
  simp only [go_sem,Nat.reduceAdd,Nat.reduceSub,Nat.reduceMul,Nat.reduceEqDiff,Nat.reduceLeDiff,Nat.reduceLT,↓reduceIte,Int.reduceToNat,reduceCtorEq,Int.reduceLT,Int.reduceLE,Int.reduceGT,Int.reduceGE,Int.reduceEq,Int.reduceNe,Int.reduceNeg,Int.reduceAdd,Int.reduceSub,List.length_map]
  refine condD_dec (fun hc => ?_) (fun hc => ?_)
  · obtain ⟨x, hx⟩ := at_lt (l := a.perm) (i := i) (by omega)
    obtain ⟨y, hy⟩ := at_lt (l := b.perm) (i := i) (by omega)
    have e1 : iw .i64 ((i : Int) + 1) = ((i + 1 : Nat) : Int) := by rw [iw64] <;> omega
    have g1 : (0 : Int) ≤ i ∧ (i : Int) < a.perm.length := ⟨by omega, by omega⟩
    have g2 : (0 : Int) ≤ i ∧ (i : Int) < b.perm.length := ⟨by omega, by omega⟩
    simp only [go_sem,Nat.reduceAdd,Nat.reduceSub,Nat.reduceMul,Nat.reduceEqDiff,Nat.reduceLeDiff,Nat.reduceLT,↓reduceIte,Int.reduceToNat,reduceCtorEq,Int.reduceLT,Int.reduceLE,Int.reduceGT,Int.reduceGE,Int.reduceEq,Int.reduceNe,Int.reduceNeg,Int.reduceAdd,Int.reduceSub]
    refine draw [.qu 0 0, .qu 0 0, .qu 0 0, .qu 0 0, .qu 0 0, .qu 0 0, .qu 0 0, .qu 0 0, .qu 0 0, .qu 0 0, .qu 0 0] (by kernel_rfl) (by kernel_rfl) ?_
    simp only [go_sem,Nat.reduceAdd,Nat.reduceSub,Nat.reduceMul,Nat.reduceEqDiff,Nat.reduceLeDiff,Nat.reduceLT,↓reduceIte,Int.reduceToNat,reduceCtorEq,Int.reduceLT,Int.reduceLE,Int.reduceGT,Int.reduceGE,Int.reduceEq,Int.reduceNe,Int.reduceNeg,Int.reduceAdd,Int.reduceSub,hx,hy,List.getElem?_map,List.length_map,g1,g2]
    rcases Decidable.em (x = y) with hxy | hxy
    · subst hxy
      simp only [go_sem,Nat.reduceAdd,Nat.reduceSub,Nat.reduceMul,Nat.reduceEqDiff,Nat.reduceLeDiff,Nat.reduceLT,↓reduceIte,Int.reduceToNat,reduceCtorEq,Int.reduceLT,Int.reduceLE,Int.reduceGT,Int.reduceGE,Int.reduceEq,Int.reduceNe,Int.reduceNeg,Int.reduceAdd,Int.reduceSub,e1]
      refine hK (i + 1) _ _ ⟨by omega, ?_⟩ (by omega) (Wk.slots' rfl (by simp [wkS, Ch.get]))
      rw [List.take_add_one, List.take_add_one, hsm, hx, hy]
    · simp only [go_sem,Nat.reduceAdd,Nat.reduceSub,Nat.reduceMul,Nat.reduceEqDiff,Nat.reduceLeDiff,Nat.reduceLT,↓reduceIte,Int.reduceToNat,reduceCtorEq,Int.reduceLT,Int.reduceLE,Int.reduceGT,Int.reduceGE,Int.reduceEq,Int.reduceNe,Int.reduceNeg,Int.reduceAdd,Int.reduceSub,eq_false hxy]
      refine fin false _ (decide_eq_false fun h => hxy ?_).symm
      rw [h, hy] at hx
      exact (Option.some.inj hx).symm
  · simp only [go_sem,Nat.reduceAdd,Nat.reduceSub,Nat.reduceMul,Nat.reduceEqDiff,Nat.reduceLeDiff,Nat.reduceLT,↓reduceIte,Int.reduceToNat,reduceCtorEq,Int.reduceLT,Int.reduceLE,Int.reduceGT,Int.reduceGE,Int.reduceEq,Int.reduceNe,Int.reduceNeg,Int.reduceAdd,Int.reduceSub]
    have : i = a.perm.length := by omega
    subst this
    rw [List.take_length, List.take_of_length_le (by omega)] at hsm
    exact fin true _ (decide_eq_true hsm).symm
theorem rsames_c (a b : Sp) (ha : a.perm.length ≤ 1000000000) : ACalls Tryd.prog 43 [a.av, b.av] [] (fun o H => o = .ret (.bool (sameS a b)) ∧ H = []) := by
  refine ACalls.up ?_
  refine ACalls.intro (cs := []) (n := 17) Tryd.func43 rfl rfl rfl (by kernel_rfl) rfl ?_
  generalize hpost : (fun (o : Out) (H : Heap) => o = Out.ret (.bool (sameS a b)) ∧ H = []) = post
  have fin : ∀ v H, v = sameS a b → Up 0 post (.ret (.bool v)) H := fun v H h => finv rfl (by rw [← hpost, ← h]; exact ⟨rfl, rfl⟩) H
  simp only [go_sem,Nat.reduceAdd,Nat.reduceSub,Nat.reduceMul,Nat.reduceEqDiff,Nat.reduceLeDiff,Nat.reduceLT,↓reduceIte,Int.reduceToNat,reduceCtorEq,Int.reduceLT,Int.reduceLE,Int.reduceGT,Int.reduceGE,Int.reduceEq,Int.reduceNe,Int.reduceNeg,Int.reduceAdd,Int.reduceSub,Sp.av]
  refine rK_use (enters_of Tryd.func81 rfl (by decide)) (ACalls.pure_use (rsamep_c a b ha) rfl rfl) ?_
  rcases Decidable.em (a.perm = b.perm) with hp | hp
  · simp only [go_sem,Nat.reduceAdd,Nat.reduceSub,Nat.reduceMul,Nat.reduceEqDiff,Nat.reduceLeDiff,Nat.reduceLT,↓reduceIte,Int.reduceToNat,reduceCtorEq,Int.reduceLT,Int.reduceLE,Int.reduceGT,Int.reduceGE,Int.reduceEq,Int.reduceNe,Int.reduceNeg,Int.reduceAdd,Int.reduceSub,decide_eq_true hp,ba_eq]
    refine fin _ _ ?_
    rw [sameS, decide_eq_true hp, Bool.true_and]
  · simp only [go_sem,Nat.reduceAdd,Nat.reduceSub,Nat.reduceMul,Nat.reduceEqDiff,Nat.reduceLeDiff,Nat.reduceLT,↓reduceIte,Int.reduceToNat,reduceCtorEq,Int.reduceLT,Int.reduceLE,Int.reduceGT,Int.reduceGE,Int.reduceEq,Int.reduceNe,Int.reduceNeg,Int.reduceAdd,Int.reduceSub,decide_eq_false hp,ba_eq]
    refine fin _ _ ?_
    rw [sameS, decide_eq_false hp, Bool.false_and]
theorem rApply_c (s : Sp) (hs : s.ok) (e : Eff) (hp : I64 e.pos) : ACalls Tryd.prog 44 [s.av, e.av] []
    (fun o H => o = .ret (.agg [.view false 1 ((applyR s e).1.perm.map r1), .view false 1 ((applyR s e).1.byt.map rb), iv (applyR s e).2]) ∧ H = []) := by
  refine ACalls.up ?_
  refine ACalls.intro (cs := []) (n := 71) Tryd.func44 rfl rfl rfl (by kernel_rfl) rfl ?_
  generalize hpost : (fun (o : Out) (H : Heap) => o = Out.ret (.agg [.view false 1 ((applyR s e).1.perm.map r1), .view false 1 ((applyR s e).1.byt.map rb), iv (applyR s e).2]) ∧ H = []) = post
  have finN : ∀ H, applyR s e = (sp0, 40) → Up 0 post (.ret (.agg [.view true 0 [], .view true 0 [], iv 40])) H := fun H h =>
    .le (o' := .ret (.agg [.view false 1 (sp0.perm.map r1), .view false 1 (sp0.byt.map rb), iv 40])) (.ret (.agg (.cons (.nil true false 0 1 (by simp)) (.cons (.nil true false 0 1 (by simp)) (.cons (.refl _) .nil))))) (LeH.refl _) (finv rfl (by rw [← hpost, h]; exact ⟨rfl, rfl⟩) H)
  simp only [go_sem,Nat.reduceAdd,Nat.reduceSub,Nat.reduceMul,Nat.reduceEqDiff,Nat.reduceLeDiff,Nat.reduceLT,↓reduceIte,Int.reduceToNat,reduceCtorEq,Int.reduceLT,Int.reduceLE,Int.reduceGT,Int.reduceGE,Int.reduceEq,Int.reduceNe,Int.reduceNeg,Int.reduceAdd,Int.reduceSub,Sp.av,Eff.av,Eff.cells,Eff.cellsD]
  have bad : ¬ Fits s e → applyR s e = (sp0, 40) := fun h => by rw [applyR, if_pos hs, if_neg h]
  have good : Fits s e → applyR s e = (s.wr e.pos.toNat e.data, 0) := fun h => by rw [applyR, if_pos hs, if_pos h]
  simp only [go_sem,Nat.reduceAdd,Nat.reduceSub,Nat.reduceMul,Nat.reduceEqDiff,Nat.reduceLeDiff,Nat.reduceLT,↓reduceIte,Int.reduceToNat,reduceCtorEq,Int.reduceLT,Int.reduceLE,Int.reduceGT,Int.reduceGE,Int.reduceEq,Int.reduceNe,Int.reduceNeg,Int.reduceAdd,Int.reduceSub,List.length_map]
  rcases Decidable.em ((8 : Int) < e.data.length) with h8 | h8
  · simp only [go_sem,Nat.reduceAdd,Nat.reduceSub,Nat.reduceMul,Nat.reduceEqDiff,Nat.reduceLeDiff,Nat.reduceLT,↓reduceIte,Int.reduceToNat,reduceCtorEq,Int.reduceLT,Int.reduceLE,Int.reduceGT,Int.reduceGE,Int.reduceEq,Int.reduceNe,Int.reduceNeg,Int.reduceAdd,Int.reduceSub,eq_true h8]
    exact finN _ (bad fun h => by have := h.len; omega)
  simp only [go_sem,Nat.reduceAdd,Nat.reduceSub,Nat.reduceMul,Nat.reduceEqDiff,Nat.reduceLeDiff,Nat.reduceLT,↓reduceIte,Int.reduceToNat,reduceCtorEq,Int.reduceLT,Int.reduceLE,Int.reduceGT,Int.reduceGE,Int.reduceEq,Int.reduceNe,Int.reduceNeg,Int.reduceAdd,Int.reduceSub,eq_false h8]
  rcases Decidable.em ((e.data.length : Int) = 0) with h0 | h0
  · have h1 : ¬ (0 : Int) < e.data.length := by omega
    rcases Decidable.em (e.pos = 0) with hp0 | hp0
    · have fi : (s.flt e.pos 2 e.data.length 0).kind = 0 → Fits s e := fun h => ⟨by omega, fun _ => hp0, fun h => by omega, h⟩
      simp only [go_sem,Nat.reduceAdd,Nat.reduceSub,Nat.reduceMul,Nat.reduceEqDiff,Nat.reduceLeDiff,Nat.reduceLT,↓reduceIte,Int.reduceToNat,reduceCtorEq,Int.reduceLT,Int.reduceLE,Int.reduceGT,Int.reduceGE,Int.reduceEq,Int.reduceNe,Int.reduceNeg,Int.reduceAdd,Int.reduceSub,eq_true h0,eq_false h1,eq_true hp0]
      refine rK_use (enters_of Tryd.func61 rfl (by decide)) (ACalls.pure_use (rfault_c s hs e.pos 2 e.data.length (by omega) (by simp)) rfl rfl) ?_
      rcases Decidable.em ((s.flt e.pos 2 e.data.length 0).kind = 0) with hk | hk
      rotate_left
      · simp only [go_sem,Nat.reduceAdd,Nat.reduceSub,Nat.reduceMul,Nat.reduceEqDiff,Nat.reduceLeDiff,Nat.reduceLT,↓reduceIte,Int.reduceToNat,reduceCtorEq,Int.reduceLT,Int.reduceLE,Int.reduceGT,Int.reduceGE,Int.reduceEq,Int.reduceNe,Int.reduceNeg,Int.reduceAdd,Int.reduceSub,Flt.cells,hk]
        exact finN _ (bad fun h => hk h.flt)
      have hfit := fi hk
      rw [flt0 _ _ _ _ _ hk]
      simp only [go_sem,Nat.reduceAdd,Nat.reduceSub,Nat.reduceMul,Nat.reduceEqDiff,Nat.reduceLeDiff,Nat.reduceLT,↓reduceIte,Int.reduceToNat,reduceCtorEq,Int.reduceLT,Int.reduceLE,Int.reduceGT,Int.reduceGE,Int.reduceEq,Int.reduceNe,Int.reduceNeg,Int.reduceAdd,Int.reduceSub,Flt.cells]
      have h6 := hs.p32
      have hbl := bytl hs
      have hle : e.pos.toNat + e.data.length ≤ s.byt.length ∨ e.data.length = 0 := by
        rcases Nat.eq_zero_or_pos e.data.length with h | h
        · exact .inr h
        · have := (flt_in hp (by omega) e.data.length 0 (by omega) (by omega) (.inr rfl) (flt_perm0 _ _ hk)).resolve_left (by omega)
          exact .inl (by omega)
      refine drawG [.rows 1 (s.perm.map r1), .rows 1 (s.byt.map rb)] [.gn 1 0 1, .qu 0 1, .rd 0 1, .gm 4 0 1, .gn 1 0 1, .qu 0 1, .rd 0 1, .gm 5 0 1, .qu 0 1, .mn 0, .mn 1] (by kernel_rfl) (by kernel_rfl) (by kernel_rfl) ?_
      simp only [go_sem,Nat.reduceAdd,Nat.reduceSub,Nat.reduceMul,Nat.reduceEqDiff,Nat.reduceLeDiff,Nat.reduceLT,↓reduceIte,Int.reduceToNat,reduceCtorEq,Int.reduceLT,Int.reduceLE,Int.reduceGT,Int.reduceGE,Int.reduceEq,Int.reduceNe,Int.reduceNeg,Int.reduceAdd,Int.reduceSub]
      refine y_gm (b := .rows 1 (s.perm.map r1)) (len := s.perm.length) ?_ rfl trivial ?_
      · exact ⟨rfl, rfl, .inl (by kernel_rfl), by simp; omega, of_decide_eq_true (by kernel_rfl), by kernel_rfl, rfl, by simp⟩
      simp only [go_sem,Nat.reduceAdd,Nat.reduceSub,Nat.reduceMul,Nat.reduceEqDiff,Nat.reduceLeDiff,Nat.reduceLT,↓reduceIte,Int.reduceToNat,reduceCtorEq,Int.reduceLT,Int.reduceLE,Int.reduceGT,Int.reduceGE,Int.reduceEq,Int.reduceNe,Int.reduceNeg,Int.reduceAdd,Int.reduceSub]
      refine y_gm (b := .rows 1 (s.byt.map rb)) (len := s.byt.length) ?_ rfl trivial ?_
      · exact ⟨rfl, rfl, .inl (by kernel_rfl), by simp; omega, of_decide_eq_true (by kernel_rfl), by kernel_rfl, rfl, by simp⟩
      simp only [go_sem,Nat.reduceAdd,Nat.reduceSub,Nat.reduceMul,Nat.reduceEqDiff,Nat.reduceLeDiff,Nat.reduceLT,↓reduceIte,Int.reduceToNat,reduceCtorEq,Int.reduceLT,Int.reduceLE,Int.reduceGT,Int.reduceGE,Int.reduceEq,Int.reduceNe,Int.reduceNeg,Int.reduceAdd,Int.reduceSub]
      refine loop_fam (fun i : Nat => (((((((Ch.nil.put 2 (.ptr 0 0 0)).put 3 (.ptr 1 0 0)).put 4 (.ptr 2 0 0)).put 5 (iv e.data.length)).put 7 (.ptr 6 0 0)).put 8 (iv i))))
        (fun i => [spB (.view false 1 (s.perm.map r1)) (.view false 1 (s.byt.map rb)), .rows 19 [e.cells], .rows 3 [[.view true 0 [], .view true 0 [], iv 0]], .rows 2 [[iv 0, iv 0]], .rows 1 (s.perm.map r1), .rows 1 ((s.wr e.pos.toNat (e.data.take i)).byt.map rb), spB (.sl 4 0 s.perm.length none) (.sl 5 0 s.byt.length none)])
        (fun i => e.data.length - i) (fun i => i ≤ e.data.length) 0 (by kernel_rfl) (Nat.zero_le _) (Wk.slots' (by rw [List.take_zero, wr_nil]; rfl) (by simp [wkS, Ch.get])) ?_
      rintro i hi K hK
      simp only [go_sem,Nat.reduceAdd,Nat.reduceSub,Nat.reduceMul,Nat.reduceEqDiff,Nat.reduceLeDiff,Nat.reduceLT,↓reduceIte,Int.reduceToNat,reduceCtorEq,Int.reduceLT,Int.reduceLE,Int.reduceGT,Int.reduceGE,Int.reduceEq,Int.reduceNe,Int.reduceNeg,Int.reduceAdd,Int.reduceSub,spB]
      refine condD_dec (fun hc => ?_) (fun hc => ?_)
      · obtain ⟨d, hd⟩ := at_lt (l := e.data) (i := i) (by omega)
        have p0 : 0 ≤ e.pos := by
          have := (flt_in hp (by omega) e.data.length 0 (by omega) (by omega) (.inr rfl) (flt_perm0 _ _ hk)).resolve_left (by omega)
          omega
        have hle2 := hle.resolve_right (by omega)
        have e1 : iw .i64 ((i : Int) + 1) = ((i + 1 : Nat) : Int) := by rw [iw64] <;> omega
        have e2 : iw .i64 (e.pos + i) = ((e.pos.toNat + i : Nat) : Int) := by rw [iw64] <;> omega
        have g1 : (0 : Int) ≤ i ∧ (i : Int) < e.data.length := ⟨by omega, by omega⟩
        have g2 : (0 : Int) ≤ ((e.pos.toNat + i : Nat) : Int) ∧ ((e.pos.toNat + i : Nat) : Int) < s.byt.length := ⟨by omega, by omega⟩
        have hlw : (s.wr e.pos.toNat (e.data.take i)).byt.length = s.byt.length := by simp [Sp.wr]; omega
        have hset : ((s.wr e.pos.toNat (e.data.take i)).byt.map rb).set (e.pos.toNat + i) [.int .u8 (d.toNat : Int)] = (s.wr e.pos.toNat (e.data.take (i + 1))).byt.map rb := by
          rw [← wr_set hle2 hd, List.map_set]
        have g3 : e.pos.toNat + i < s.byt.length := by omega
        obtain ⟨z, hz⟩ := at_lt (l := (s.wr e.pos.toNat (e.data.take i)).byt) (i := e.pos.toNat + i) (by omega)
        simp only [go_sem,Nat.reduceAdd,Nat.reduceSub,Nat.reduceMul,Nat.reduceEqDiff,Nat.reduceLeDiff,Nat.reduceLT,↓reduceIte,Int.reduceToNat,reduceCtorEq,Int.reduceLT,Int.reduceLE,Int.reduceGT,Int.reduceGE,Int.reduceEq,Int.reduceNe,Int.reduceNeg,Int.reduceAdd,Int.reduceSub]
        refine draw [.qu 0 0, .qu 0 0, .qu 0 0, .qu 0 0, .qu 0 0, .qu 0 0, .qu 0 0, .qu 0 0, .qu 0 0, .qu 0 0, .qu 0 0, .qu 0 0, .mn 0] (by kernel_rfl) (by kernel_rfl) ?_
        simp only [go_sem,Nat.reduceAdd,Nat.reduceSub,Nat.reduceMul,Nat.reduceEqDiff,Nat.reduceLeDiff,Nat.reduceLT,↓reduceIte,Int.reduceToNat,reduceCtorEq,Int.reduceLT,Int.reduceLE,Int.reduceGT,Int.reduceGE,Int.reduceEq,Int.reduceNe,Int.reduceNeg,Int.reduceAdd,Int.reduceSub,hd,List.getElem?_map,List.length_map,g1,g2,g3,e2,hz,hlw,hset,Eff.cells,Eff.cellsD,e1]
        exact hK (i + 1) _ _ (by omega) (by omega) (Wk.slots' rfl (by simp [wkS, Ch.get]))
      · simp only [go_sem,Nat.reduceAdd,Nat.reduceSub,Nat.reduceMul,Nat.reduceEqDiff,Nat.reduceLeDiff,Nat.reduceLT,↓reduceIte,Int.reduceToNat,reduceCtorEq,Int.reduceLT,Int.reduceLE,Int.reduceGT,Int.reduceGE,Int.reduceEq,Int.reduceNe,Int.reduceNeg,Int.reduceAdd,Int.reduceSub]
        have : i = e.data.length := by omega
        subst this
        rw [List.take_length]
        have hlw : (s.wr e.pos.toNat e.data).byt.length = s.byt.length := by rcases hle with h | h <;> simp [Sp.wr] <;> omega
        refine up_two 4 1 (s.perm.map r1) 5 1 ((s.wr e.pos.toNat e.data).byt.map rb) (by decide) rfl rfl (r1_lt0 _) (rb_lt0 _) ?_ ?_ ?_ ?_
        · simp [Out.fzOk, AV.fzOk, fzOkL]
        · simp [Out.fzOk, Out.fz, AV.fz, fzL, AV.fzOk, fzOkL, hlw]
        · simp [Out.fz, AV.fz, fzL, Out.lt, AV.lt, ltL]
        · rw [← hpost, good hfit]
          refine ⟨?_, rfl⟩
          have e4 : ((s.wr e.pos.toNat e.data).byt.map rb).take s.byt.length = (s.wr e.pos.toNat e.data).byt.map rb := List.take_of_length_le (by simp [hlw])
          simp [Out.fz, AV.fz, fzL, e4]
          exact tk_r1 _
    · simp only [go_sem,Nat.reduceAdd,Nat.reduceSub,Nat.reduceMul,Nat.reduceEqDiff,Nat.reduceLeDiff,Nat.reduceLT,↓reduceIte,Int.reduceToNat,reduceCtorEq,Int.reduceLT,Int.reduceLE,Int.reduceGT,Int.reduceGE,Int.reduceEq,Int.reduceNe,Int.reduceNeg,Int.reduceAdd,Int.reduceSub,eq_true h0,eq_false hp0]
      exact finN _ (bad fun h => hp0 (h.pos (by omega)))
  · have h1 : (0 : Int) < e.data.length := by omega
    rcases Decidable.em (e.trap.kind = 0) with ht | ht
    · have fi : (s.flt e.pos 2 e.data.length 0).kind = 0 → Fits s e := fun h => ⟨by omega, fun h => by omega, fun _ => ht, h⟩
      simp only [go_sem,Nat.reduceAdd,Nat.reduceSub,Nat.reduceMul,Nat.reduceEqDiff,Nat.reduceLeDiff,Nat.reduceLT,↓reduceIte,Int.reduceToNat,reduceCtorEq,Int.reduceLT,Int.reduceLE,Int.reduceGT,Int.reduceGE,Int.reduceEq,Int.reduceNe,Int.reduceNeg,Int.reduceAdd,Int.reduceSub,eq_false h0,eq_true h1,eq_true ht]
      refine rK_use (enters_of Tryd.func61 rfl (by decide)) (ACalls.pure_use (rfault_c s hs e.pos 2 e.data.length (by omega) (by simp)) rfl rfl) ?_
      rcases Decidable.em ((s.flt e.pos 2 e.data.length 0).kind = 0) with hk | hk
      rotate_left
      · simp only [go_sem,Nat.reduceAdd,Nat.reduceSub,Nat.reduceMul,Nat.reduceEqDiff,Nat.reduceLeDiff,Nat.reduceLT,↓reduceIte,Int.reduceToNat,reduceCtorEq,Int.reduceLT,Int.reduceLE,Int.reduceGT,Int.reduceGE,Int.reduceEq,Int.reduceNe,Int.reduceNeg,Int.reduceAdd,Int.reduceSub,Flt.cells,hk]
        exact finN _ (bad fun h => hk h.flt)
      have hfit := fi hk
      rw [flt0 _ _ _ _ _ hk]
      simp only [go_sem,Nat.reduceAdd,Nat.reduceSub,Nat.reduceMul,Nat.reduceEqDiff,Nat.reduceLeDiff,Nat.reduceLT,↓reduceIte,Int.reduceToNat,reduceCtorEq,Int.reduceLT,Int.reduceLE,Int.reduceGT,Int.reduceGE,Int.reduceEq,Int.reduceNe,Int.reduceNeg,Int.reduceAdd,Int.reduceSub,Flt.cells]
      have h6 := hs.p32
      have hbl := bytl hs
      have hle : e.pos.toNat + e.data.length ≤ s.byt.length ∨ e.data.length = 0 := by
        rcases Nat.eq_zero_or_pos e.data.length with h | h
        · exact .inr h
        · have := (flt_in hp (by omega) e.data.length 0 (by omega) (by omega) (.inr rfl) (flt_perm0 _ _ hk)).resolve_left (by omega)
          exact .inl (by omega)
      refine drawG [.rows 1 (s.perm.map r1), .rows 1 (s.byt.map rb)] [.gn 1 0 1, .qu 0 1, .rd 0 1, .gm 4 0 1, .gn 1 0 1, .qu 0 1, .rd 0 1, .gm 5 0 1, .qu 0 1, .mn 0, .mn 1] (by kernel_rfl) (by kernel_rfl) (by kernel_rfl) ?_
      simp only [go_sem,Nat.reduceAdd,Nat.reduceSub,Nat.reduceMul,Nat.reduceEqDiff,Nat.reduceLeDiff,Nat.reduceLT,↓reduceIte,Int.reduceToNat,reduceCtorEq,Int.reduceLT,Int.reduceLE,Int.reduceGT,Int.reduceGE,Int.reduceEq,Int.reduceNe,Int.reduceNeg,Int.reduceAdd,Int.reduceSub]
      refine y_gm (b := .rows 1 (s.perm.map r1)) (len := s.perm.length) ?_ rfl trivial ?_
      · exact ⟨rfl, rfl, .inl (by kernel_rfl), by simp; omega, of_decide_eq_true (by kernel_rfl), by kernel_rfl, rfl, by simp⟩
      simp only [go_sem,Nat.reduceAdd,Nat.reduceSub,Nat.reduceMul,Nat.reduceEqDiff,Nat.reduceLeDiff,Nat.reduceLT,↓reduceIte,Int.reduceToNat,reduceCtorEq,Int.reduceLT,Int.reduceLE,Int.reduceGT,Int.reduceGE,Int.reduceEq,Int.reduceNe,Int.reduceNeg,Int.reduceAdd,Int.reduceSub]
      refine y_gm (b := .rows 1 (s.byt.map rb)) (len := s.byt.length) ?_ rfl trivial ?_
      · exact ⟨rfl, rfl, .inl (by kernel_rfl), by simp; omega, of_decide_eq_true (by kernel_rfl), by kernel_rfl, rfl, by simp⟩
      simp only [go_sem,Nat.reduceAdd,Nat.reduceSub,Nat.reduceMul,Nat.reduceEqDiff,Nat.reduceLeDiff,Nat.reduceLT,↓reduceIte,Int.reduceToNat,reduceCtorEq,Int.reduceLT,Int.reduceLE,Int.reduceGT,Int.reduceGE,Int.reduceEq,Int.reduceNe,Int.reduceNeg,Int.reduceAdd,Int.reduceSub]
      refine loop_fam (fun i : Nat => (((((((Ch.nil.put 2 (.ptr 0 0 0)).put 3 (.ptr 1 0 0)).put 4 (.ptr 2 0 0)).put 5 (iv e.data.length)).put 7 (.ptr 6 0 0)).put 8 (iv i))))
        (fun i => [spB (.view false 1 (s.perm.map r1)) (.view false 1 (s.byt.map rb)), .rows 19 [e.cells], .rows 3 [[.view true 0 [], .view true 0 [], iv 0]], .rows 2 [[iv 0, iv 0]], .rows 1 (s.perm.map r1), .rows 1 ((s.wr e.pos.toNat (e.data.take i)).byt.map rb), spB (.sl 4 0 s.perm.length none) (.sl 5 0 s.byt.length none)])
        (fun i => e.data.length - i) (fun i => i ≤ e.data.length) 0 (by kernel_rfl) (Nat.zero_le _) (Wk.slots' (by rw [List.take_zero, wr_nil]; rfl) (by simp [wkS, Ch.get])) ?_
      rintro i hi K hK
      simp only [go_sem,Nat.reduceAdd,Nat.reduceSub,Nat.reduceMul,Nat.reduceEqDiff,Nat.reduceLeDiff,Nat.reduceLT,↓reduceIte,Int.reduceToNat,reduceCtorEq,Int.reduceLT,Int.reduceLE,Int.reduceGT,Int.reduceGE,Int.reduceEq,Int.reduceNe,Int.reduceNeg,Int.reduceAdd,Int.reduceSub,spB]
      refine condD_dec (fun hc => ?_) (fun hc => ?_)
      · obtain ⟨d, hd⟩ := at_lt (l := e.data) (i := i) (by omega)
        have p0 : 0 ≤ e.pos := by
          have := (flt_in hp (by omega) e.data.length 0 (by omega) (by omega) (.inr rfl) (flt_perm0 _ _ hk)).resolve_left (by omega)
          omega
        have hle2 := hle.resolve_right (by omega)
        have e1 : iw .i64 ((i : Int) + 1) = ((i + 1 : Nat) : Int) := by rw [iw64] <;> omega
        have e2 : iw .i64 (e.pos + i) = ((e.pos.toNat + i : Nat) : Int) := by rw [iw64] <;> omega
        have g1 : (0 : Int) ≤ i ∧ (i : Int) < e.data.length := ⟨by omega, by omega⟩
        have g2 : (0 : Int) ≤ ((e.pos.toNat + i : Nat) : Int) ∧ ((e.pos.toNat + i : Nat) : Int) < s.byt.length := ⟨by omega, by omega⟩
        have hlw : (s.wr e.pos.toNat (e.data.take i)).byt.length = s.byt.length := by simp [Sp.wr]; omega
        have hset : ((s.wr e.pos.toNat (e.data.take i)).byt.map rb).set (e.pos.toNat + i) [.int .u8 (d.toNat : Int)] = (s.wr e.pos.toNat (e.data.take (i + 1))).byt.map rb := by
          rw [← wr_set hle2 hd, List.map_set]
        have g3 : e.pos.toNat + i < s.byt.length := by omega
        obtain ⟨z, hz⟩ := at_lt (l := (s.wr e.pos.toNat (e.data.take i)).byt) (i := e.pos.toNat + i) (by omega)
        simp only [go_sem,Nat.reduceAdd,Nat.reduceSub,Nat.reduceMul,Nat.reduceEqDiff,Nat.reduceLeDiff,Nat.reduceLT,↓reduceIte,Int.reduceToNat,reduceCtorEq,Int.reduceLT,Int.reduceLE,Int.reduceGT,Int.reduceGE,Int.reduceEq,Int.reduceNe,Int.reduceNeg,Int.reduceAdd,Int.reduceSub]
        refine draw [.qu 0 0, .qu 0 0, .qu 0 0, .qu 0 0, .qu 0 0, .qu 0 0, .qu 0 0, .qu 0 0, .qu 0 0, .qu 0 0, .qu 0 0, .qu 0 0, .mn 0] (by kernel_rfl) (by kernel_rfl) ?_
        simp only [go_sem,Nat.reduceAdd,Nat.reduceSub,Nat.reduceMul,Nat.reduceEqDiff,Nat.reduceLeDiff,Nat.reduceLT,↓reduceIte,Int.reduceToNat,reduceCtorEq,Int.reduceLT,Int.reduceLE,Int.reduceGT,Int.reduceGE,Int.reduceEq,Int.reduceNe,Int.reduceNeg,Int.reduceAdd,Int.reduceSub,hd,List.getElem?_map,List.length_map,g1,g2,g3,e2,hz,hlw,hset,Eff.cells,Eff.cellsD,e1]
        exact hK (i + 1) _ _ (by omega) (by omega) (Wk.slots' rfl (by simp [wkS, Ch.get]))
      · simp only [go_sem,Nat.reduceAdd,Nat.reduceSub,Nat.reduceMul,Nat.reduceEqDiff,Nat.reduceLeDiff,Nat.reduceLT,↓reduceIte,Int.reduceToNat,reduceCtorEq,Int.reduceLT,Int.reduceLE,Int.reduceGT,Int.reduceGE,Int.reduceEq,Int.reduceNe,Int.reduceNeg,Int.reduceAdd,Int.reduceSub]
        have : i = e.data.length := by omega
        subst this
        rw [List.take_length]
        have hlw : (s.wr e.pos.toNat e.data).byt.length = s.byt.length := by rcases hle with h | h <;> simp [Sp.wr] <;> omega
        refine up_two 4 1 (s.perm.map r1) 5 1 ((s.wr e.pos.toNat e.data).byt.map rb) (by decide) rfl rfl (r1_lt0 _) (rb_lt0 _) ?_ ?_ ?_ ?_
        · simp [Out.fzOk, AV.fzOk, fzOkL]
        · simp [Out.fzOk, Out.fz, AV.fz, fzL, AV.fzOk, fzOkL, hlw]
        · simp [Out.fz, AV.fz, fzL, Out.lt, AV.lt, ltL]
        · rw [← hpost, good hfit]
          refine ⟨?_, rfl⟩
          have e4 : ((s.wr e.pos.toNat e.data).byt.map rb).take s.byt.length = (s.wr e.pos.toNat e.data).byt.map rb := List.take_of_length_le (by simp [hlw])
          simp [Out.fz, AV.fz, fzL, e4]
          exact tk_r1 _
    · simp only [go_sem,Nat.reduceAdd,Nat.reduceSub,Nat.reduceMul,Nat.reduceEqDiff,Nat.reduceLeDiff,Nat.reduceLT,↓reduceIte,Int.reduceToNat,reduceCtorEq,Int.reduceLT,Int.reduceLE,Int.reduceGT,Int.reduceGE,Int.reduceEq,Int.reduceNe,Int.reduceNeg,Int.reduceAdd,Int.reduceSub,eq_false h0,eq_true h1,eq_false ht]
      exact finN _ (bad fun h => ht (h.trap (by omega)))
end Go.Proofs.YtojfnagfafoiaaaDoor
