/- cpu: the registers that an instruction reads and writes. No condition. -/
import Derived.Test.YtojfnagfafoiaaaDoorSG
set_option maxRecDepth 100000
set_option linter.unusedVariables false
set_option linter.unusedSimpArgs false
namespace Go.Proofs.YtojfnagfafoiaaaDoor
open Go.AM
def setL (l : List Int) (k : Nat) : List Int := ((List.range k).filter fun r : Nat => decide ((r : Int) ∈ l)).map fun r : Nat => (r : Int)
theorem setL_len (l : List Int) (k : Nat) : (setL l k).length ≤ k := by
  have := List.length_filter_le (fun r : Nat => decide ((r : Int) ∈ l)) (List.range k)
  simpa [setL] using this
theorem setL_in {l : List Int} {k : Nat} (h : (k : Int) ∈ l) : setL l (k + 1) = setL l k ++ [(k : Int)] := by
  simp [setL, List.range_succ, List.filter_append, h]
theorem setL_no {l : List Int} {k : Nat} (h : ¬ (k : Int) ∈ l) : setL l (k + 1) = setL l k := by
  simp [setL, List.range_succ, List.filter_append, h]
theorem mem_setL {l : List Int} {k : Nat} {n : Int} : n ∈ setL l k ↔ n ∈ l ∧ 0 ≤ n ∧ n < k := by
  simp only [setL, List.mem_map, List.mem_filter, List.mem_range, decide_eq_true_eq]
  constructor
  · rintro ⟨r, ⟨h1, h2⟩, rfl⟩; exact ⟨h2, by omega, by omega⟩
  · rintro ⟨h1, h2, h3⟩; exact ⟨n.toNat, ⟨by omega, by rwa [Int.toNat_of_nonneg h2]⟩, Int.toNat_of_nonneg h2⟩
theorem set_c (l : List Int) (hl : l.length ≤ 8) :
    ACalls Tryd.prog 76 [.view false 1 (l.map r1)] [] (fun o H => o = .ret (.view false 1 ((setL l 8).map r1)) ∧ H = []) := by
  refine ACalls.up ?_
  refine ACalls.intro (cs := []) (n := 25) Tryd.func76 rfl rfl rfl (by kernel_rfl) rfl ?_
  generalize hpost : (fun (o : Out) (H : Heap) => o = Out.ret (.view false 1 ((setL l 8).map r1)) ∧ H = []) = post
  simp only [go_sem,Nat.reduceAdd,Nat.reduceSub,Nat.reduceMul,Nat.reduceEqDiff,Nat.reduceLeDiff,Nat.reduceLT,↓reduceIte,Int.reduceToNat,reduceCtorEq,Int.reduceLT,Int.reduceLE,Int.reduceGT,Int.reduceGE,Int.reduceEq,Int.reduceNe,Int.reduceNeg,Int.reduceAdd,Int.reduceSub]
  refine loop_fam (fun k : Nat => (((Ch.nil.put 0 (.view false 1 (l.map r1))).put 2 (.sl 0 0 (setL l k).length none)).put 6 (iv k))) (fun k => [.rows 1 ((setL l k).map r1)]) (fun k => 8 - k) (fun k => k ≤ 8) 0 (by kernel_rfl) (by decide) ?_ ?_
  · exact (Wk.slots (s' := (((Ch.nil.put 0 (.view false 1 (l.map r1))).put 2 (.view true 0 [])).put 6 (iv 0))) (by simp [wkS, Ch.get])).trans
      ((Wk.ghost (.rows 1 [])).trans (Wk.le (.cons _ (.cons _ (LeC.refl _) (.sl0 0 0 0)) (.refl _)) (LeH.refl _)))
  rintro k hk K hK
  simp only [go_sem,Nat.reduceAdd,Nat.reduceSub,Nat.reduceMul,Nat.reduceEqDiff,Nat.reduceLeDiff,Nat.reduceLT,↓reduceIte,Int.reduceToNat,reduceCtorEq,Int.reduceLT,Int.reduceLE,Int.reduceGT,Int.reduceGE,Int.reduceEq,Int.reduceNe,Int.reduceNeg,Int.reduceAdd,Int.reduceSub]
  have hn := setL_len l k
  refine condD_dec (fun hc => ?_) (fun hc => ?_)
  · have e1 : iw .i64 ((k : Int) + 1) = ((k + 1 : Nat) : Int) := by rw [iw64] <;> omega
    simp only [go_sem,Nat.reduceAdd,Nat.reduceSub,Nat.reduceMul,Nat.reduceEqDiff,Nat.reduceLeDiff,Nat.reduceLT,↓reduceIte,Int.reduceToNat,reduceCtorEq,Int.reduceLT,Int.reduceLE,Int.reduceGT,Int.reduceGE,Int.reduceEq,Int.reduceNe,Int.reduceNeg,Int.reduceAdd,Int.reduceSub,List.length_map]
    refine loop_fam (fun j : Nat => (((((((Ch.nil.put 0 (.view false 1 (l.map r1))).put 2 (.sl 0 0 (setL l k).length none)).put 3 (iv k)).put 6 (iv k)).put 9 (.view false 1 (l.map r1))).put 10 (iv l.length)).put 11 (iv j))) (fun j => [.rows 1 ((setL l k).map r1)]) (fun j => l.length - j) (fun j => j ≤ l.length ∧ ¬ (k : Int) ∈ l.take j) 0 (by kernel_rfl) ⟨Nat.zero_le _, by simp⟩
      (Wk.slots' rfl (by simp [wkS, Ch.get])) ?_
    rintro j ⟨hj, hno⟩ K2 hK2
    simp only [go_sem,Nat.reduceAdd,Nat.reduceSub,Nat.reduceMul,Nat.reduceEqDiff,Nat.reduceLeDiff,Nat.reduceLT,↓reduceIte,Int.reduceToNat,reduceCtorEq,Int.reduceLT,Int.reduceLE,Int.reduceGT,Int.reduceGE,Int.reduceEq,Int.reduceNe,Int.reduceNeg,Int.reduceAdd,Int.reduceSub]
    refine condD_dec (fun hd => ?_) (fun hd => ?_)
    · obtain ⟨c, hc2⟩ := at_lt (l := l) (i := j) (by omega)
      have e2 : iw .i64 ((j : Int) + 1) = ((j + 1 : Nat) : Int) := by rw [iw64] <;> omega
      have g1 : (0 : Int) ≤ j ∧ (j : Int) < l.length := ⟨by omega, by omega⟩
      simp only [go_sem,Nat.reduceAdd,Nat.reduceSub,Nat.reduceMul,Nat.reduceEqDiff,Nat.reduceLeDiff,Nat.reduceLT,↓reduceIte,Int.reduceToNat,reduceCtorEq,Int.reduceLT,Int.reduceLE,Int.reduceGT,Int.reduceGE,Int.reduceEq,Int.reduceNe,Int.reduceNeg,Int.reduceAdd,Int.reduceSub,hc2,List.getElem?_map,List.length_map,g1]
      refine condD_dec (fun he => ?_) (fun he => ?_)
      · subst he
        have hin : (k : Int) ∈ l := List.mem_of_getElem? hc2
        have e4 : ((setL l k).map r1).take (setL l k).length = (setL l k).map r1 := List.take_of_length_le (by simp)
        have e5 : (setL l k).length + 1 ≤ 68719476736 := by omega
        simp only [go_sem,Nat.reduceAdd,Nat.reduceSub,Nat.reduceMul,Nat.reduceEqDiff,Nat.reduceLeDiff,Nat.reduceLT,↓reduceIte,Int.reduceToNat,reduceCtorEq,Int.reduceLT,Int.reduceLE,Int.reduceGT,Int.reduceGE,Int.reduceEq,Int.reduceNe,Int.reduceNeg,Int.reduceAdd,Int.reduceSub,e1,e4,e5,List.length_map]
        refine hK (k + 1) _ _ (by omega) (by omega) ?_
        rw [setL_in hin]
        exact Wk.push (A := []) (b := .rows 1 ((setL l k ++ [(k : Int)]).map r1)) 2 rfl (by simp) (by simp) (by simp) (blt0 (r1_lt0 _)) (by simp) (by simp [wkP, Ch.get, AV.ren, pu_lt, pu_eq])
      · simp only [go_sem,Nat.reduceAdd,Nat.reduceSub,Nat.reduceMul,Nat.reduceEqDiff,Nat.reduceLeDiff,Nat.reduceLT,↓reduceIte,Int.reduceToNat,reduceCtorEq,Int.reduceLT,Int.reduceLE,Int.reduceGT,Int.reduceGE,Int.reduceEq,Int.reduceNe,Int.reduceNeg,Int.reduceAdd,Int.reduceSub,e2]
        refine hK2 (j + 1) _ _ ⟨by omega, ?_⟩ (by omega) (Wk.slots' rfl (by simp [wkS, Ch.get]))
        rw [List.take_add_one, hc2]
        simp
        exact ⟨hno, fun h => he h.symm⟩
    · have : j = l.length := by omega
      subst this
      rw [List.take_length] at hno
      simp only [go_sem,Nat.reduceAdd,Nat.reduceSub,Nat.reduceMul,Nat.reduceEqDiff,Nat.reduceLeDiff,Nat.reduceLT,↓reduceIte,Int.reduceToNat,reduceCtorEq,Int.reduceLT,Int.reduceLE,Int.reduceGT,Int.reduceGE,Int.reduceEq,Int.reduceNe,Int.reduceNeg,Int.reduceAdd,Int.reduceSub,e1]
      refine hK (k + 1) _ _ (by omega) (by omega) ?_
      rw [setL_no hno]
      exact Wk.slots' rfl (by simp [wkS, Ch.get])
  · simp only [go_sem,Nat.reduceAdd,Nat.reduceSub,Nat.reduceMul,Nat.reduceEqDiff,Nat.reduceLeDiff,Nat.reduceLT,↓reduceIte,Int.reduceToNat,reduceCtorEq,Int.reduceLT,Int.reduceLE,Int.reduceGT,Int.reduceGE,Int.reduceEq,Int.reduceNe,Int.reduceNeg,Int.reduceAdd,Int.reduceSub]
    have : k = 8 := by omega
    subst this
    have e4 : ((setL l 8).map r1).take (setL l 8).length = (setL l 8).map r1 := List.take_of_length_le (by simp)
    refine up_one 0 1 ((setL l 8).map r1) rfl (r1_lt0 _) (by simp [Out.fzOk, AV.fzOk, fzOkL]) ?_ ?_
    · simp [Out.fz, AV.fz, fzL, Out.lt, AV.lt, ltL]
    · rw [← hpost]
      simp [Out.fz, AV.fz, fzL, e4]
/-- The registers that an instruction writes, as they are told. -/
def wrL (x : Ins) : List Int :=
  if x.ok then
    if x.op = 2 ∨ x.op = 3 ∨ x.op = 4 ∨ x.op = 32 ∨ x.op = 16 ∨ x.op = 17 ∨ x.op = 18 ∨ x.op = 34 then setL [x.a] 8
    else if x.op = 27 ∨ x.op = 28 ∨ x.op = 30 ∨ x.op = 29 then setL [7] 8
    else if x.op = 31 then setL [x.a, 7] 8
    else if 5 ≤ x.op ∧ x.op ≤ 15 then setL [x.a] 8 else []
  else []
def rdR (x : Ins) : List Int :=
  if x.ok then
    if x.op = 2 ∨ x.op = 17 ∨ x.op = 18 then setL [x.b] 8
    else if x.op = 16 ∨ x.op = 26 then setL [x.a] 8
    else if x.op = 27 ∨ x.op = 29 ∨ x.op = 31 then setL [7] 8
    else if x.op = 28 ∨ x.op = 30 then setL [x.a, 7] 8
    else if x.op = 19 ∨ x.op = 20 ∨ x.op = 21 ∨ x.op = 22 ∨ x.op = 23 ∨ x.op = 24 ∨ x.op = 34 then setL [x.a, x.b] 8
    else if 5 ≤ x.op ∧ x.op ≤ 15 then setL [x.a, x.b] 8 else []
  else []
theorem set_fz {l : List Int} (hl : l.length ≤ 8) {H : Heap} {r : Nat} (hr : H[r]? = some (.rows 1 (l.map r1))) (hH : ∀ b ∈ H, b.lt 0) :
    ACalls Tryd.prog 76 [.sl r 0 l.length (some l.length)] H (fun o H2 => o = .ret (.view false 1 ((setL l 8).map r1)) ∧ H2 = H.set r .dead) := by
  refine ACalls.pre_fz r hr (r1_pure _) (by simp [fzOkL, AV.fzOk]) (fun b hb => ?_) ?_
  · rcases List.mem_or_eq_of_mem_set hb with hb | rfl
    · exact bok0 (hH b hb)
    · trivial
  · have e : (H.set r .dead).map (Blk.fz r 1 (l.map r1)) = H.set r .dead := by
      conv => rhs; rw [← List.map_id' (H.set r .dead)]
      refine List.map_congr_left fun b hb => ?_
      rcases List.mem_or_eq_of_mem_set hb with hb | rfl
      · exact bfz0 (hH b hb)
      · rfl
    have e4 : (l.map r1).take l.length = l.map r1 := List.take_of_length_le (by simp)
    rw [e]
    have := (set_c l hl).pure_use (H := H.set r .dead) (by simp [AV.lt, ltL]) (by simp [AV.lt])
    simp only [fzL, AV.fz, List.drop_zero, if_true, e4]
    exact this
theorem writes_c (x : Ins) : ACalls Tryd.prog 39 [x.av] [] (fun o H => o = .ret (.view false 1 ((wrL x).map r1)) ∧ H = []) := by
  refine ACalls.up ?_
  refine ACalls.intro (cs := []) (n := 46) Tryd.func39 rfl rfl rfl (by kernel_rfl) rfl ?_
  generalize hpost : (fun (o : Out) (H : Heap) => o = Out.ret (.view false 1 ((wrL x).map r1)) ∧ H = []) = post
  have fin : ∀ l H, l = wrL x → Up 0 post (.ret (.view false 1 (l.map r1))) H := fun l H e => finv (by simp [AV.lt]) (by rw [← hpost, e]; exact ⟨rfl, rfl⟩) H
  have finN : ∀ H, wrL x = [] → Up 0 post (.ret (.view true 0 [])) H := fun H e => .le (.ret (.nil true false 0 1 (by simp))) (LeH.refl _) (by have := fin [] H e.symm; exact this)
  simp only [go_sem,Nat.reduceAdd,Nat.reduceSub,Nat.reduceMul,Nat.reduceEqDiff,Nat.reduceLeDiff,Nat.reduceLT,↓reduceIte,Int.reduceToNat,reduceCtorEq,Int.reduceLT,Int.reduceLE,Int.reduceGT,Int.reduceGE,Int.reduceEq,Int.reduceNe,Int.reduceNeg,Int.reduceAdd,Int.reduceSub,Ins.av,Ins.cells]
  refine rK_use (enters_of Tryd.func51 rfl (by decide)) (ACalls.pure_use (icheck_c x) rfl rfl) ?_
  by_cases hx : x.ok
  rotate_left
  · rw [Ins.chk, if_neg hx]
    simp only [go_sem,Nat.reduceAdd,Nat.reduceSub,Nat.reduceMul,Nat.reduceEqDiff,Nat.reduceLeDiff,Nat.reduceLT,↓reduceIte,Int.reduceToNat,reduceCtorEq,Int.reduceLT,Int.reduceLE,Int.reduceGT,Int.reduceGE,Int.reduceEq,Int.reduceNe,Int.reduceNeg,Int.reduceAdd,Int.reduceSub]
    exact finN _ (by rw [wrL, if_neg hx])
  · rw [Ins.chk, if_pos hx]
    simp only [go_sem,Nat.reduceAdd,Nat.reduceSub,Nat.reduceMul,Nat.reduceEqDiff,Nat.reduceLeDiff,Nat.reduceLT,↓reduceIte,Int.reduceToNat,reduceCtorEq,Int.reduceLT,Int.reduceLE,Int.reduceGT,Int.reduceGE,Int.reduceEq,Int.reduceNe,Int.reduceNeg,Int.reduceAdd,Int.reduceSub]
    repeat' (first
      | (refine condD_dec (fun hg => ?_) (fun hg => ?_) <;> simp only [go_sem,Nat.reduceAdd,Nat.reduceSub,Nat.reduceMul,Nat.reduceEqDiff,Nat.reduceLeDiff,Nat.reduceLT,↓reduceIte,Int.reduceToNat,reduceCtorEq,Int.reduceLT,Int.reduceLE,Int.reduceGT,Int.reduceGE,Int.reduceEq,Int.reduceNe,Int.reduceNeg,Int.reduceAdd,Int.reduceSub,hg])
      | (refine gD_dec (fun hg => ?_) (fun hg => ?_) <;> simp only [go_sem,Nat.reduceAdd,Nat.reduceSub,Nat.reduceMul,Nat.reduceEqDiff,Nat.reduceLeDiff,Nat.reduceLT,↓reduceIte,Int.reduceToNat,reduceCtorEq,Int.reduceLT,Int.reduceLE,Int.reduceGT,Int.reduceGE,Int.reduceEq,Int.reduceNe,Int.reduceNeg,Int.reduceAdd,Int.reduceSub,hg])
      | (refine rK_use (enters_of Tryd.func76 rfl (by decide)) (set_fz (l := [x.a, 7]) (by simp) (r := 1) rfl (by simp [Blk.lt, ltL, AV.lt])) ?_; simp only [go_sem,Nat.reduceAdd,Nat.reduceSub,Nat.reduceMul,Nat.reduceEqDiff,Nat.reduceLeDiff,Nat.reduceLT,↓reduceIte,Int.reduceToNat,reduceCtorEq,Int.reduceLT,Int.reduceLE,Int.reduceGT,Int.reduceGE,Int.reduceEq,Int.reduceNe,Int.reduceNeg,Int.reduceAdd,Int.reduceSub])
      | (refine rK_use (enters_of Tryd.func76 rfl (by decide)) (set_fz (l := [x.a]) (by simp) (r := 1) rfl (by simp [Blk.lt, ltL, AV.lt])) ?_; simp only [go_sem,Nat.reduceAdd,Nat.reduceSub,Nat.reduceMul,Nat.reduceEqDiff,Nat.reduceLeDiff,Nat.reduceLT,↓reduceIte,Int.reduceToNat,reduceCtorEq,Int.reduceLT,Int.reduceLE,Int.reduceGT,Int.reduceGE,Int.reduceEq,Int.reduceNe,Int.reduceNeg,Int.reduceAdd,Int.reduceSub])
      | (refine rK_use (enters_of Tryd.func76 rfl (by decide)) (set_fz (l := [7]) (by simp) (r := 1) rfl (by simp [Blk.lt, ltL, AV.lt])) ?_; simp only [go_sem,Nat.reduceAdd,Nat.reduceSub,Nat.reduceMul,Nat.reduceEqDiff,Nat.reduceLeDiff,Nat.reduceLT,↓reduceIte,Int.reduceToNat,reduceCtorEq,Int.reduceLT,Int.reduceLE,Int.reduceGT,Int.reduceGE,Int.reduceEq,Int.reduceNe,Int.reduceNeg,Int.reduceAdd,Int.reduceSub]))
    all_goals first
      | exact finN _ (by simp [wrL, hx, *])
      | exact fin _ _ (by simp [wrL, hx, *])
theorem reads_c (x : Ins) : ACalls Tryd.prog 42 [x.av] [] (fun o H => o = .ret (.view false 1 ((rdR x).map r1)) ∧ H = []) := by
  refine ACalls.up ?_
  refine ACalls.intro (cs := []) (n := 64) Tryd.func42 rfl rfl rfl (by kernel_rfl) rfl ?_
  generalize hpost : (fun (o : Out) (H : Heap) => o = Out.ret (.view false 1 ((rdR x).map r1)) ∧ H = []) = post
  have fin : ∀ l H, l = rdR x → Up 0 post (.ret (.view false 1 (l.map r1))) H := fun l H e => finv (by simp [AV.lt]) (by rw [← hpost, e]; exact ⟨rfl, rfl⟩) H
  have finN : ∀ H, rdR x = [] → Up 0 post (.ret (.view true 0 [])) H := fun H e => .le (.ret (.nil true false 0 1 (by simp))) (LeH.refl _) (by have := fin [] H e.symm; exact this)
  simp only [go_sem,Nat.reduceAdd,Nat.reduceSub,Nat.reduceMul,Nat.reduceEqDiff,Nat.reduceLeDiff,Nat.reduceLT,↓reduceIte,Int.reduceToNat,reduceCtorEq,Int.reduceLT,Int.reduceLE,Int.reduceGT,Int.reduceGE,Int.reduceEq,Int.reduceNe,Int.reduceNeg,Int.reduceAdd,Int.reduceSub,Ins.av,Ins.cells]
  refine rK_use (enters_of Tryd.func51 rfl (by decide)) (ACalls.pure_use (icheck_c x) rfl rfl) ?_
  by_cases hx : x.ok
  rotate_left
  · rw [Ins.chk, if_neg hx]
    simp only [go_sem,Nat.reduceAdd,Nat.reduceSub,Nat.reduceMul,Nat.reduceEqDiff,Nat.reduceLeDiff,Nat.reduceLT,↓reduceIte,Int.reduceToNat,reduceCtorEq,Int.reduceLT,Int.reduceLE,Int.reduceGT,Int.reduceGE,Int.reduceEq,Int.reduceNe,Int.reduceNeg,Int.reduceAdd,Int.reduceSub]
    exact finN _ (by rw [rdR, if_neg hx])
  · rw [Ins.chk, if_pos hx]
    simp only [go_sem,Nat.reduceAdd,Nat.reduceSub,Nat.reduceMul,Nat.reduceEqDiff,Nat.reduceLeDiff,Nat.reduceLT,↓reduceIte,Int.reduceToNat,reduceCtorEq,Int.reduceLT,Int.reduceLE,Int.reduceGT,Int.reduceGE,Int.reduceEq,Int.reduceNe,Int.reduceNeg,Int.reduceAdd,Int.reduceSub]
    repeat' (first
      | (refine condD_dec (fun hg => ?_) (fun hg => ?_) <;> simp only [go_sem,Nat.reduceAdd,Nat.reduceSub,Nat.reduceMul,Nat.reduceEqDiff,Nat.reduceLeDiff,Nat.reduceLT,↓reduceIte,Int.reduceToNat,reduceCtorEq,Int.reduceLT,Int.reduceLE,Int.reduceGT,Int.reduceGE,Int.reduceEq,Int.reduceNe,Int.reduceNeg,Int.reduceAdd,Int.reduceSub,hg])
      | (refine gD_dec (fun hg => ?_) (fun hg => ?_) <;> simp only [go_sem,Nat.reduceAdd,Nat.reduceSub,Nat.reduceMul,Nat.reduceEqDiff,Nat.reduceLeDiff,Nat.reduceLT,↓reduceIte,Int.reduceToNat,reduceCtorEq,Int.reduceLT,Int.reduceLE,Int.reduceGT,Int.reduceGE,Int.reduceEq,Int.reduceNe,Int.reduceNeg,Int.reduceAdd,Int.reduceSub,hg])
      | (refine rK_use (enters_of Tryd.func76 rfl (by decide)) (set_fz (l := [x.a, 7]) (by simp) (r := 1) rfl (by simp [Blk.lt, ltL, AV.lt])) ?_; simp only [go_sem,Nat.reduceAdd,Nat.reduceSub,Nat.reduceMul,Nat.reduceEqDiff,Nat.reduceLeDiff,Nat.reduceLT,↓reduceIte,Int.reduceToNat,reduceCtorEq,Int.reduceLT,Int.reduceLE,Int.reduceGT,Int.reduceGE,Int.reduceEq,Int.reduceNe,Int.reduceNeg,Int.reduceAdd,Int.reduceSub])
      | (refine rK_use (enters_of Tryd.func76 rfl (by decide)) (set_fz (l := [x.a, x.b]) (by simp) (r := 1) rfl (by simp [Blk.lt, ltL, AV.lt])) ?_; simp only [go_sem,Nat.reduceAdd,Nat.reduceSub,Nat.reduceMul,Nat.reduceEqDiff,Nat.reduceLeDiff,Nat.reduceLT,↓reduceIte,Int.reduceToNat,reduceCtorEq,Int.reduceLT,Int.reduceLE,Int.reduceGT,Int.reduceGE,Int.reduceEq,Int.reduceNe,Int.reduceNeg,Int.reduceAdd,Int.reduceSub])
      | (refine rK_use (enters_of Tryd.func76 rfl (by decide)) (set_fz (l := [x.a]) (by simp) (r := 1) rfl (by simp [Blk.lt, ltL, AV.lt])) ?_; simp only [go_sem,Nat.reduceAdd,Nat.reduceSub,Nat.reduceMul,Nat.reduceEqDiff,Nat.reduceLeDiff,Nat.reduceLT,↓reduceIte,Int.reduceToNat,reduceCtorEq,Int.reduceLT,Int.reduceLE,Int.reduceGT,Int.reduceGE,Int.reduceEq,Int.reduceNe,Int.reduceNeg,Int.reduceAdd,Int.reduceSub])
      | (refine rK_use (enters_of Tryd.func76 rfl (by decide)) (set_fz (l := [x.b]) (by simp) (r := 1) rfl (by simp [Blk.lt, ltL, AV.lt])) ?_; simp only [go_sem,Nat.reduceAdd,Nat.reduceSub,Nat.reduceMul,Nat.reduceEqDiff,Nat.reduceLeDiff,Nat.reduceLT,↓reduceIte,Int.reduceToNat,reduceCtorEq,Int.reduceLT,Int.reduceLE,Int.reduceGT,Int.reduceGE,Int.reduceEq,Int.reduceNe,Int.reduceNeg,Int.reduceAdd,Int.reduceSub])
      | (refine rK_use (enters_of Tryd.func76 rfl (by decide)) (set_fz (l := [7]) (by simp) (r := 1) rfl (by simp [Blk.lt, ltL, AV.lt])) ?_; simp only [go_sem,Nat.reduceAdd,Nat.reduceSub,Nat.reduceMul,Nat.reduceEqDiff,Nat.reduceLeDiff,Nat.reduceLT,↓reduceIte,Int.reduceToNat,reduceCtorEq,Int.reduceLT,Int.reduceLE,Int.reduceGT,Int.reduceGE,Int.reduceEq,Int.reduceNe,Int.reduceNeg,Int.reduceAdd,Int.reduceSub]))
    all_goals first
      | exact finN _ (by simp [rdR, hx, *])
      | exact fin _ _ (by simp [rdR, hx, *])
def inL (l : List Int) (n : Int) : Bool := decide (n ∈ l)
theorem in_c (l : List Int) (hl : l.length ≤ 8) (n : Int) : ACalls Tryd.prog 40 [.view false 1 (l.map r1), iv n] [] (fun o H => o = .ret (.bool (inL l n)) ∧ H = []) := by
  refine ACalls.up ?_
  refine ACalls.intro (cs := []) (n := 18) Tryd.func40 rfl rfl rfl (by kernel_rfl) rfl ?_
  generalize hpost : (fun (o : Out) (H : Heap) => o = Out.ret (.bool (inL l n)) ∧ H = []) = post
  have fin : ∀ b H, b = inL l n → Up 0 post (.ret (.bool b)) H := fun b H e => finv rfl (by rw [← hpost, e]; exact ⟨rfl, rfl⟩) H
  simp only [go_sem,Nat.reduceAdd,Nat.reduceSub,Nat.reduceMul,Nat.reduceEqDiff,Nat.reduceLeDiff,Nat.reduceLT,↓reduceIte,Int.reduceToNat,reduceCtorEq,Int.reduceLT,Int.reduceLE,Int.reduceGT,Int.reduceGE,Int.reduceEq,Int.reduceNe,Int.reduceNeg,Int.reduceAdd,Int.reduceSub]
  refine loop_fam (fun i : Nat => (((Ch.nil.put 0 (.view false 1 (l.map r1))).put 1 (iv n)).put 5 (iv i))) (fun _ => []) (fun i => l.length - i) (fun i => i ≤ l.length ∧ ¬ n ∈ l.take i) 0 (by kernel_rfl) ⟨Nat.zero_le _, by simp⟩
    (Wk.slots' rfl (by simp [wkS, Ch.get])) ?_
  rintro i ⟨hi, hno⟩ K hK
  simp only [go_sem,Nat.reduceAdd,Nat.reduceSub,Nat.reduceMul,Nat.reduceEqDiff,Nat.reduceLeDiff,Nat.reduceLT,↓reduceIte,Int.reduceToNat,reduceCtorEq,Int.reduceLT,Int.reduceLE,Int.reduceGT,Int.reduceGE,Int.reduceEq,Int.reduceNe,Int.reduceNeg,Int.reduceAdd,Int.reduceSub,List.length_map]
  refine condD_dec (fun hc => ?_) (fun hc => ?_)
  · obtain ⟨c, hc2⟩ := at_lt (l := l) (i := i) (by omega)
    have e1 : iw .i64 ((i : Int) + 1) = ((i + 1 : Nat) : Int) := by rw [iw64] <;> omega
    have g1 : (0 : Int) ≤ i ∧ (i : Int) < l.length := ⟨by omega, by omega⟩
    simp only [go_sem,Nat.reduceAdd,Nat.reduceSub,Nat.reduceMul,Nat.reduceEqDiff,Nat.reduceLeDiff,Nat.reduceLT,↓reduceIte,Int.reduceToNat,reduceCtorEq,Int.reduceLT,Int.reduceLE,Int.reduceGT,Int.reduceGE,Int.reduceEq,Int.reduceNe,Int.reduceNeg,Int.reduceAdd,Int.reduceSub,hc2,List.getElem?_map,List.length_map,g1]
    refine condD_dec (fun he => ?_) (fun he => ?_)
    · simp only [go_sem,Nat.reduceAdd,Nat.reduceSub,Nat.reduceMul,Nat.reduceEqDiff,Nat.reduceLeDiff,Nat.reduceLT,↓reduceIte,Int.reduceToNat,reduceCtorEq,Int.reduceLT,Int.reduceLE,Int.reduceGT,Int.reduceGE,Int.reduceEq,Int.reduceNe,Int.reduceNeg,Int.reduceAdd,Int.reduceSub]
      refine fin true _ ?_
      rw [inL, decide_eq_true]
      exact he ▸ List.mem_of_getElem? hc2
    · simp only [go_sem,Nat.reduceAdd,Nat.reduceSub,Nat.reduceMul,Nat.reduceEqDiff,Nat.reduceLeDiff,Nat.reduceLT,↓reduceIte,Int.reduceToNat,reduceCtorEq,Int.reduceLT,Int.reduceLE,Int.reduceGT,Int.reduceGE,Int.reduceEq,Int.reduceNe,Int.reduceNeg,Int.reduceAdd,Int.reduceSub,e1]
      refine hK (i + 1) _ _ ⟨by omega, ?_⟩ (by omega) (Wk.slots' rfl (by simp [wkS, Ch.get]))
      rw [List.take_add_one, hc2]
      simp
      exact ⟨hno, fun h => he h.symm⟩
  · simp only [go_sem,Nat.reduceAdd,Nat.reduceSub,Nat.reduceMul,Nat.reduceEqDiff,Nat.reduceLeDiff,Nat.reduceLT,↓reduceIte,Int.reduceToNat,reduceCtorEq,Int.reduceLT,Int.reduceLE,Int.reduceGT,Int.reduceGE,Int.reduceEq,Int.reduceNe,Int.reduceNeg,Int.reduceAdd,Int.reduceSub]
    have : i = l.length := by omega
    subst this
    rw [List.take_length] at hno
    refine fin false _ ?_
    rw [inL, decide_eq_false hno]
end Go.Proofs.YtojfnagfafoiaaaDoor

set_option maxRecDepth 100000
set_option linter.unusedVariables false
set_option linter.unusedSimpArgs false
namespace Go.Proofs.YtojfnagfafoiaaaDoor
open Go.AM
theorem stL_ne (n : Nat) (v : Int) : stL (n + 1) v ≠ [] := fun h => by
  have := congrArg List.length h
  rw [stL_len] at this
  simp at this
structure Frame (x : Ins) (r : Rg) (e : Eff) : Prop where
  reg : ∀ i : Nat, i < 8 → (¬ e.trap.kind = 0 ∨ inL (wrL x) i = false) → e.rg.get i = r.get i
  pc : ¬ e.trap.kind = 0 → ¬ e.trap.kind = 1 → e.rg.pc = r.pc
  dat : ¬ e.trap.kind = 0 → e.data = []
  pos0 : e.data = [] → e.pos = 0
  acc : ¬ e.data = [] → ∃ a ∈ foot x r, a.write = true ∧ a.pos = e.pos ∧ a.size = e.data.length
theorem in1 {a i : Int} (h : inL (setL [a] 8) i = false) (h0 : 0 ≤ i) (h8 : i < 8) : ¬ a = i := by
  simp [inL, mem_setL] at h
  omega
theorem in2 {a b i : Int} (h : inL (setL [a, b] 8) i = false) (h0 : 0 ≤ i) (h8 : i < 8) : ¬ a = i ∧ ¬ b = i := by
  simp [inL, mem_setL] at h
  omega
theorem get_set {r : Rg} {a v : Int} {i : Nat} (hi : i < 8) (h : ¬ a = i) : (r.set a v).get i = r.get i := by
  have : i = 0 ∨ i = 1 ∨ i = 2 ∨ i = 3 ∨ i = 4 ∨ i = 5 ∨ i = 6 ∨ i = 7 := by omega
  rcases this with rfl | rfl | rfl | rfl | rfl | rfl | rfl | rfl <;> simp at h <;> simp [Rg.get, Rg.set, Rg.list, h]
theorem get_pc {r : Rg} {v : Int} {i : Int} : ({ r with pc := v } : Rg).get i = r.get i := rfl
theorem get_7 {r : Rg} {v : Int} {i : Nat} (hi : i < 8) (h : ¬ (7 : Int) = i) : ({ r with r7 := v } : Rg).get i = r.get i := by
  have : i = 0 ∨ i = 1 ∨ i = 2 ∨ i = 3 ∨ i = 4 ∨ i = 5 ∨ i = 6 ∨ i = 7 := by omega
  rcases this with rfl | rfl | rfl | rfl | rfl | rfl | rfl | rfl <;> first | (simp at h; done) | rfl
theorem frame {x : Ins} {s : Sp} {r : Rg} (hx : x.ok) (hr : r.wf) : Frame x r (exec x s r) := by
  by_cases hf : (ffault s (foot x r)).kind = 0
  · have ho := ops35 hx.op
    have hw : wrL x = _ := if_pos hx
    have him := swap_imm hx
    unfold exec
    rw [eff_ok hf]
    obtain ⟨op, a, b, imm⟩ := x
    simp only at ho
    cases hal : alu op (r.get a) (r.get b)
    all_goals cases htk : taken ⟨op, a, b, imm⟩ r
    all_goals rcases ho with rfl | rfl | rfl | rfl | rfl | rfl | rfl | rfl | rfl | rfl | rfl | rfl | rfl | rfl | rfl | rfl | rfl | rfl | rfl | rfl | rfl | rfl | rfl | rfl | rfl | rfl | rfl | rfl | rfl | rfl | rfl | rfl | rfl | rfl | rfl
    all_goals simp [isAlu, tabR, Res.eff, Pr.setA, Pr.toPc, Pr.p1, Pr.start, Pr.set7, hal, htk] at hw him ⊢
    all_goals refine ⟨fun i hi h => ?_, fun h1 h2 => ?_, fun h => ?_, fun h => ?_, fun h => ?_⟩
    all_goals first
      | rfl
      | (simp at h; done)
      | (simp at h1; done)
      | (simp at h2; done)
      | (simp [hw] at h
         exact get_set hi (in1 h (by omega) (by omega)))
      | (simp [hw] at h
         exact (get_set hi (in2 h (by omega) (by omega)).1).trans (get_set (a := 7) (r := { r with pc := _ }) hi (in2 h (by omega) (by omega)).2))
      | (simp [stL_ne] at h; done)
      | (simp [foot, stL_len]; done)
      | (simp [foot, stL_len, him]
         have h1 := hr.get b
         unfold I64 at h1
         exact iw64 (by omega) (by omega))
      | skip
    all_goals skip
  · rw [exec_f hf]
    exact ⟨fun i _ _ => rfl, fun _ _ => rfl, fun _ => rfl, fun _ => rfl, fun h => absurd rfl h⟩
end Go.Proofs.YtojfnagfafoiaaaDoor
