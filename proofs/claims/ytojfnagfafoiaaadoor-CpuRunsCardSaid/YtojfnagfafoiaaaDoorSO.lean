/- mem: the pages of a space, and a space in memory of its own. No condition. -/
import Derived.Test.YtojfnagfafoiaaaDoorSA
import Derived.Test.YtojfnagfafoiaaaDoorKE
import Derived.Test.YtojfnagfafoiaaaDoorSB
import Derived.Test.YtojfnagfafoiaaaDoorSG1
set_option maxRecDepth 100000
set_option linter.unusedVariables false
set_option linter.unusedSimpArgs false
namespace Go.Proofs.YtojfnagfafoiaaaDoor
open Go.AM
theorem mpages_c (s : Sp) : ACalls Tryd.prog 104 [s.av] [] (fun o H => o = .ret (.func (.func 126) [] [.ptr 0 0 0]) ∧ H = [.rows 2 [[.view false 1 (s.perm.map r1), .view false 1 (s.byt.map rb)]]]) := by
  refine ACalls.up ?_
  refine ACalls.intro (cs := []) (n := 4) Tryd.func104 rfl rfl rfl (by kernel_rfl) rfl ?_
  simp only [go_sem,Nat.reduceAdd,Nat.reduceSub,Nat.reduceMul,Nat.reduceEqDiff,Nat.reduceLeDiff,Nat.reduceLT,↓reduceIte,Int.reduceToNat,reduceCtorEq,Int.reduceLT,Int.reduceLE,Int.reduceGT,Int.reduceGE,Int.reduceEq,Int.reduceNe,Int.reduceNeg,Int.reduceAdd,Int.reduceSub,Sp.av]
  exact .done ⟨rfl, rfl⟩
def pageB (b : List UInt8) (i : Nat) : List UInt8 := (b.drop (64 * i)).take 64
theorem flat_rb : ∀ (l : List UInt8), (l.map rb).flatten = l.map bv
  | [] => rfl
  | b :: l => by simp [flat_rb l]
def pageV (b : List UInt8) (i : Nat) : AV := .agg ((pageB b i).map bv)
theorem mpages1_c (s : Sp) (hs : s.ok) (r q : Nat) (Hs : Nat → Heap) (hq : ∀ i, (Hs i)[q]? = some (.rows 2 [[.view false 1 (s.perm.map r1), .view false 1 (s.byt.map rb)]]))
    (hy : ∀ i, i < s.perm.length → RYield Tryd.prog r [iv i, pageV s.byt i] (Hs i) (fun o H => o = .ret (.bool true) ∧ H = Hs (i + 1))) :
    ACalls Tryd.prog 126 [.yfn r, .ptr q 0 0] (Hs 0) (fun o H => o = .ret (.tuple []) ∧ H = Hs s.perm.length) := by
  refine ACalls.up ?_
  refine ACalls.intro (cs := [3]) (n := 25) Tryd.func126 rfl rfl rfl (by kernel_rfl) rfl ?_
  have h6 := hs.p32
  have hl := hs.len
  simp only [go_sem,Nat.reduceAdd,Nat.reduceSub,Nat.reduceMul,Nat.reduceEqDiff,Nat.reduceLeDiff,Nat.reduceLT,↓reduceIte,Int.reduceToNat,reduceCtorEq,Int.reduceLT,Int.reduceLE,Int.reduceGT,Int.reduceGE,Int.reduceEq,Int.reduceNe,Int.reduceNeg,Int.reduceAdd,Int.reduceSub,hq,List.length_map]
  refine loop_fam (fun i : Nat => ((((Ch.nil.put 0 (.yfn r)).put 1 (.ptr q 0 0)).put 6 (iv s.perm.length)).put 7 (iv i))) (fun i => Hs i) (fun i => s.perm.length - i) (fun i => i ≤ s.perm.length) 0 (by kernel_rfl) (Nat.zero_le _) (Wk.slots' rfl (by simp [wkS, Ch.get])) ?_
  rintro i hi K hK
  simp only [go_sem,Nat.reduceAdd,Nat.reduceSub,Nat.reduceMul,Nat.reduceEqDiff,Nat.reduceLeDiff,Nat.reduceLT,↓reduceIte,Int.reduceToNat,reduceCtorEq,Int.reduceLT,Int.reduceLE,Int.reduceGT,Int.reduceGE,Int.reduceEq,Int.reduceNe,Int.reduceNeg,Int.reduceAdd,Int.reduceSub]
  refine condD_dec (fun hc => ?_) (fun hc => ?_)
  · simp only [go_sem,Nat.reduceAdd,Nat.reduceSub,Nat.reduceMul,Nat.reduceEqDiff,Nat.reduceLeDiff,Nat.reduceLT,↓reduceIte,Int.reduceToNat,reduceCtorEq,Int.reduceLT,Int.reduceLE,Int.reduceGT,Int.reduceGE,Int.reduceEq,Int.reduceNe,Int.reduceNeg,Int.reduceAdd,Int.reduceSub]
    have e1 : iw .i64 ((i : Int) * 64) = ((64 * i : Nat) : Int) := by rw [iw64] <;> omega
    have e2 : iw .i64 ((i : Int) + 1) = ((i + 1 : Nat) : Int) := by rw [iw64] <;> omega
    have e3 : iw .i64 (((i + 1 : Nat) : Int) * 64) = ((64 * i + 64 : Nat) : Int) := by rw [iw64] <;> omega
    refine seq_cutS (fun _ : Unit => (((((Ch.nil.put 0 (.yfn r)).put 1 (.ptr q 0 0)).put 6 (iv s.perm.length)).put 7 (iv i)).put 3 (iv i))) (fun _ => Hs i) (fun _ => True) ?_ ?_
    · intro K2 hK2
      simp only [go_sem,Nat.reduceAdd,Nat.reduceSub,Nat.reduceMul,Nat.reduceEqDiff,Nat.reduceLeDiff,Nat.reduceLT,↓reduceIte,Int.reduceToNat,reduceCtorEq,Int.reduceLT,Int.reduceLE,Int.reduceGT,Int.reduceGE,Int.reduceEq,Int.reduceNe,Int.reduceNeg,Int.reduceAdd,Int.reduceSub]
      exact hK2 () _ _ trivial (Wk.slots' rfl (by simp [wkS, Ch.get]))
    · intro _ _
      refine SWp.seq (K := fun s' H' => Wk (List.length (Hs 0)) 25 s' H' (((((Ch.nil.put 0 (.yfn r)).put 1 (.ptr q 0 0)).put 6 (iv s.perm.length)).put 7 (iv i)).put 23 (.bool false)) (Hs (i + 1))) ?_ ?_
      · refine SWp.yield 12 rfl (by kernel_rfl) ?_
        have g1 : (0 : Int) ≤ ((64 * i : Nat) : Int) ∧ ((64 * i : Nat) : Int) ≤ ((64 * i + 64 : Nat) : Int) ∧ ((64 * i + 64 : Nat) : Int) ≤ (s.byt.length : Int) := ⟨by omega, by omega, by omega⟩
        have e4 : ((s.byt.map rb).take (64 * i + 64)).drop (64 * i) = (pageB s.byt i).map rb := by
          rw [pageB, List.map_take, List.map_drop, List.drop_take, show 64 * i + 64 - 64 * i = 64 by omega]
        have hp : (pageB s.byt i).length = 64 := by simp [pageB]; omega
        have e5 : ((pageB s.byt i).map rb).flatten = (pageB s.byt i).map bv := flat_rb _
        have e6 : ((pageB s.byt i).map bv).take 64 = (pageB s.byt i).map bv := List.take_of_length_le (by simp; omega)
        have g2 : (0 : Nat) < 64 ∧ 64 ≤ (pageB s.byt i).length := by omega
        simp only [go_sem,Nat.reduceAdd,Nat.reduceSub,Nat.reduceMul,Nat.reduceEqDiff,Nat.reduceLeDiff,Nat.reduceLT,↓reduceIte,Int.reduceToNat,reduceCtorEq,Int.reduceLT,Int.reduceLE,Int.reduceGT,Int.reduceGE,Int.reduceEq,Int.reduceNe,Int.reduceNeg,Int.reduceAdd,Int.reduceSub,hq,e1,e2,e3,g1,e4,e5,hp,List.length_map,e6]
        refine ⟨r, rfl, (hy i (by omega)).mono ?_⟩
        rintro o H' ⟨rfl, rfl⟩
        simp only [go_sem,Nat.reduceAdd,Nat.reduceSub,Nat.reduceMul,Nat.reduceEqDiff,Nat.reduceLeDiff,Nat.reduceLT,↓reduceIte,Int.reduceToNat,reduceCtorEq,Int.reduceLT,Int.reduceLE,Int.reduceGT,Int.reduceGE,Int.reduceEq,Int.reduceNe,Int.reduceNeg,Int.reduceAdd,Int.reduceSub]
        exact Wk.slots' rfl (by simp [wkS, Ch.get])
      · intro s' H' hw
        refine SWp.wk hw (cwp_sound _ (by kernel_rfl) _ _ _ ?_)
        simp only [go_sem,Nat.reduceAdd,Nat.reduceSub,Nat.reduceMul,Nat.reduceEqDiff,Nat.reduceLeDiff,Nat.reduceLT,↓reduceIte,Int.reduceToNat,reduceCtorEq,Int.reduceLT,Int.reduceLE,Int.reduceGT,Int.reduceGE,Int.reduceEq,Int.reduceNe,Int.reduceNeg,Int.reduceAdd,Int.reduceSub,e2]
        exact hK (i + 1) _ _ (by omega) (by omega) (Wk.slots' rfl (by simp [wkS, Ch.get]))
  · simp only [go_sem,Nat.reduceAdd,Nat.reduceSub,Nat.reduceMul,Nat.reduceEqDiff,Nat.reduceLeDiff,Nat.reduceLT,↓reduceIte,Int.reduceToNat,reduceCtorEq,Int.reduceLT,Int.reduceLE,Int.reduceGT,Int.reduceGE,Int.reduceEq,Int.reduceNe,Int.reduceNeg,Int.reduceAdd,Int.reduceSub]
    have : i = s.perm.length := by omega
    subst this
    exact .done ⟨rfl, rfl⟩
theorem clone_int_c (l : List Int) (full : Bool) (hl : l.length ≤ 1000) : ACalls Tryd.prog 103 [.view full 1 (l.map r1)] [] (fun o H => o = .ret (.view false 1 (l.map r1)) ∧ H = []) := by
  refine ACalls.up ?_
  refine ACalls.intro (cs := []) (n := 8) Tryd.func103 rfl rfl rfl (by kernel_rfl) rfl ?_
  simp only [go_sem,Nat.reduceAdd,Nat.reduceSub,Nat.reduceMul,Nat.reduceEqDiff,Nat.reduceLeDiff,Nat.reduceLT,↓reduceIte,Int.reduceToNat,reduceCtorEq,rK_ndb]
  intro b hb
  refine condD_split (fun e => ?_) (fun e => ?_)
  · have hl0 : l = [] := by
      rw [List.length_map] at hb
      rcases l with _ | ⟨x, l⟩
      · rfl
      · have := hb (by simp); rw [e] at this; cases this
    subst hl0
    simp only [go_sem,Nat.reduceAdd,Nat.reduceSub,Nat.reduceMul,Nat.reduceEqDiff,Nat.reduceLeDiff,Nat.reduceLT,↓reduceIte,Int.reduceToNat,reduceCtorEq]
    exact .le (.ret (.nil _ _ 0 1 (by simp))) .nil (.done ⟨rfl, rfl⟩)
  · simp only [go_sem,Nat.reduceAdd,Nat.reduceSub,Nat.reduceMul,Nat.reduceEqDiff,Nat.reduceLeDiff,Nat.reduceLT,↓reduceIte,Int.reduceToNat,reduceCtorEq,List.length_map]
    refine ⟨by omega, ?_⟩
    simp only [go_sem,Nat.reduceAdd,Nat.reduceSub,Nat.reduceMul,Nat.reduceEqDiff,Nat.reduceLeDiff,Nat.reduceLT,↓reduceIte,Int.reduceToNat,reduceCtorEq]
    refine .fz 1 1 (l.map r1) rfl (r1_pure l) (by simp [Out.fzOk, AV.fzOk]) (by simp [Blk.fzOk]) ?_
    refine .gc 0 (Nat.le_refl _) (Nat.zero_le _) (by simp [Out.fz, AV.fz, Out.lt, AV.lt]) (by simp) (.done ⟨?_, rfl⟩)
    simp [Out.fz, AV.fz]
    rw [List.take_of_length_le (by simp)]
theorem rep_shift (n : Nat) (y : Blk) : List.replicate n Blk.dead ++ [Blk.dead, y] = Blk.dead :: (List.replicate n Blk.dead ++ [y]) := by
  induction n with
  | zero => rfl
  | succ n ih => simp [List.replicate_succ, ih]
def spB (p : AV) (b : AV) : Blk := .rows 2 [[p, b]]
/-- The heap behind i rounds. -/
def cpH (s : Sp) (f : FuncId) (ac bc : Code) : Nat → Heap
  | 0 => [spB (.view false 1 (s.perm.map r1)) (.view false 1 (s.byt.map rb)), spB (.view true 0 []) (.view true 0 []), spB (.view false 1 (s.perm.map r1)) (.view true 0 []), spB (.view false 1 (s.perm.map r1)) (.view false 1 (s.byt.map rb)), LB f #[12, 13] ac bc .ready none 20 (Ch.nil.put 3 (.ptr 2 0 0))]
  | i + 1 => [spB (.view false 1 (s.perm.map r1)) (.view false 1 (s.byt.map rb)), spB (.view true 0 []) (.view true 0 []), spB (.view false 1 (s.perm.map r1)) (.sl (2 * i + 1 + 1 + 1 + 1 + 1 + 1) 0 (64 * (i + 1)) none), spB (.view false 1 (s.perm.map r1)) (.view false 1 (s.byt.map rb)), LB f #[12, 13] ac bc .ready none 20 (Ch.nil.put 3 (.ptr 2 0 0))]
    ++ (List.replicate (2 * i + 1) .dead ++ [.rows 1 ((s.byt.take (64 * (i + 1))).map rb)])
theorem copied_res : Tryd.f95.results.toList = [ResultVar.cell 2 27] := rfl
theorem copied_c (s : Sp) (hs : s.ok) : ACalls Tryd.prog 95 [s.av] [] (fun o H => o = .ret (.agg [.view false 1 (s.perm.map r1), .sl 0 0 s.byt.length none]) ∧ H = [.rows 1 (s.byt.map rb)]) := by
  refine ACalls.up ?_
  have h6 := hs.p32
  refine ACalls.introR (n := 20) Tryd.func95 rfl (by kernel_rfl) rfl ?_
  refine FWp.split (FWp.step [] rfl (by kernel_rfl) ?_)
  simp only [go_sem,Nat.reduceAdd,Nat.reduceSub,Nat.reduceMul,Nat.reduceEqDiff,Nat.reduceLeDiff,Nat.reduceLT,↓reduceIte,Int.reduceToNat,reduceCtorEq,Int.reduceLT,Int.reduceLE,Int.reduceGT,Int.reduceGE,Int.reduceEq,Int.reduceNe,Int.reduceNeg,Int.reduceAdd,Int.reduceSub,Sp.av]
  refine FWp.split (FWp.step [] rfl (by kernel_rfl) ?_)
  simp only [go_sem,Nat.reduceAdd,Nat.reduceSub,Nat.reduceMul,Nat.reduceEqDiff,Nat.reduceLeDiff,Nat.reduceLT,↓reduceIte,Int.reduceToNat,reduceCtorEq,Int.reduceLT,Int.reduceLE,Int.reduceGT,Int.reduceGE,Int.reduceEq,Int.reduceNe,Int.reduceNeg,Int.reduceAdd,Int.reduceSub]
  refine rK_use (enters_of Tryd.func103 rfl (by decide)) (ACalls.pure_use (clone_int_c s.perm false (by omega)) rfl rfl) ?_
  simp only [go_sem,Nat.reduceAdd,Nat.reduceSub,Nat.reduceMul,Nat.reduceEqDiff,Nat.reduceLeDiff,Nat.reduceLT,↓reduceIte,Int.reduceToNat,reduceCtorEq,Int.reduceLT,Int.reduceLE,Int.reduceGT,Int.reduceGE,Int.reduceEq,Int.reduceNe,Int.reduceNeg,Int.reduceAdd,Int.reduceSub]
  refine FWp.split (FWp.split (FWp.step [] rfl (by kernel_rfl) ?_))
  simp only [go_sem,Nat.reduceAdd,Nat.reduceSub,Nat.reduceMul,Nat.reduceEqDiff,Nat.reduceLeDiff,Nat.reduceLT,↓reduceIte,Int.reduceToNat,reduceCtorEq,Int.reduceLT,Int.reduceLE,Int.reduceGT,Int.reduceGE,Int.reduceEq,Int.reduceNe,Int.reduceNeg,Int.reduceAdd,Int.reduceSub]
  refine rK_use (enters_of Tryd.func104 rfl (by decide)) (ACalls.fresh (v' := .func (.func 126) [] [.ptr 3 0 0]) (mpages_c s) rfl (by simp [Blk.lt, ltL, AV.lt]) rfl) ?_
  simp only [go_sem,Nat.reduceAdd,Nat.reduceSub,Nat.reduceMul,Nat.reduceEqDiff,Nat.reduceLeDiff,Nat.reduceLT,↓reduceIte,Int.reduceToNat,reduceCtorEq,Int.reduceLT,Int.reduceLE,Int.reduceGT,Int.reduceGE,Int.reduceEq,Int.reduceNe,Int.reduceNeg,Int.reduceAdd,Int.reduceSub]
  refine FWp.range (Ch.nil.put 3 (.ptr 2 0 0)) rfl (by kernel_rfl) rfl (enters_of Tryd.func126 rfl (by decide)) (by simp [wkS, Ch.get]) (fun f => ?_)
  refine ACalls.mono (mpages1_c s hs 4 3 (cpH s f _ _) (fun i => by cases i <;> rfl) ?_) ?_
  · intro i hi
    cases i with
    | zero =>
      refine RYield.intro [] rfl (by kernel_rfl) (by kernel_rfl) (by kernel_rfl) ?_
      have hp : (pageB s.byt 0).length = 64 := by simp [pageB]; have := hs.len; omega
      have ho : ((pageB s.byt 0).map bv).all AV.one = true := by simp [AV.one]
      have e6 : ((pageB s.byt 0).map bv).take 64 = (pageB s.byt 0).map bv := List.take_of_length_le (by simp; omega)
      simp only [go_sem,Nat.reduceAdd,Nat.reduceSub,Nat.reduceMul,Nat.reduceEqDiff,Nat.reduceLeDiff,Nat.reduceLT,↓reduceIte,Int.reduceToNat,reduceCtorEq,Int.reduceLT,Int.reduceLE,Int.reduceGT,Int.reduceGE,Int.reduceEq,Int.reduceNe,Int.reduceNeg,Int.reduceAdd,Int.reduceSub,pageV,cpH,spB,putsCh,List.length_map,hp,ho]
      refine ⟨_, rfl, ?_⟩
      refine draw [.qu 0 0, .qu 0 0, .qu 0 0, .mn 0, .qu 1 1, .mn 1] (by kernel_rfl) (by kernel_rfl) ?_
      have e7 : ((pageB s.byt 0).map bv).map (fun x => [x]) = (pageB s.byt 0).map rb := by simp [Function.comp]
      simp only [go_sem,Nat.reduceAdd,Nat.reduceSub,Nat.reduceMul,Nat.reduceEqDiff,Nat.reduceLeDiff,Nat.reduceLT,↓reduceIte,Int.reduceToNat,reduceCtorEq,Int.reduceLT,Int.reduceLE,Int.reduceGT,Int.reduceGE,Int.reduceEq,Int.reduceNe,Int.reduceNeg,Int.reduceAdd,Int.reduceSub,e6,e7,List.length_map,hp]
      refine ⟨Ch.nil.put 3 (.ptr 2 0 0), _, (Wk.slots (by simp [wkS])).trans (Wk.dead 5), rfl, ?_⟩
      simp [cpH, spB, pageB]
      skip
    | succ i =>
      have hp : (pageB s.byt (i + 1)).length = 64 := by simp [pageB]; have := hs.len; omega
      have ho : ((pageB s.byt (i + 1)).map bv).all AV.one = true := by simp [AV.one]
      have e6 : ((pageB s.byt (i + 1)).map bv).take 64 = (pageB s.byt (i + 1)).map bv := List.take_of_length_le (by simp; omega)
      refine RYield.intro [] rfl (by kernel_rfl) (by kernel_rfl) (by kernel_rfl) ?_
      simp only [cpH, spB, List.cons_append, List.nil_append]
      generalize hRd : (List.replicate (2 * i + 1) Blk.dead ++ [Blk.rows 1 ((s.byt.take (64 * (i + 1))).map rb)]) = R
      have hRl : R.length = 2 * i + 2 := by rw [← hRd]; simp
      have q1 : ∀ x : Blk, (R ++ [x])[R.length]? = some x := fun x => by simp
      have q2 : ∀ x y : Blk, (R ++ [x]).set R.length y = R ++ [y] := fun x y => by simp
      have q3 : ∀ x : Blk, (R ++ [x])[2 * i + 1]? = some (.rows 1 ((s.byt.take (64 * (i + 1))).map rb)) := fun x => by
        rw [List.getElem?_append_left (by omega), ← hRd]; simp
      obtain ⟨R2, hR2⟩ : ∃ R2, R2 = List.replicate (2 * i + 2) Blk.dead := ⟨_, rfl⟩
      have q4 : ∀ x : Blk, (R ++ [x]).set (2 * i + 1) .dead = R2 ++ [x] := fun x => by
        rw [List.set_append_left _ _ (by omega), ← hRd, List.set_append_right _ _ (by simp), hR2]
        simp [List.replicate_succ', List.append_assoc]
      have q5 : ∀ x : Blk, (R2 ++ [x]).length = 2 * (i + 1) + 1 := fun x => by rw [hR2]; simp; omega
      have q7 : ∀ x y : Blk, (R2 ++ [x, y]).set R.length .dead = Blk.dead :: (List.replicate (2 * (i + 1)) Blk.dead ++ [y]) := fun x y => by
        rw [List.set_append_right _ _ (by rw [hR2]; simp; omega), hRl, hR2]
        simp [List.replicate_succ, show 2 * (i + 1) = 2 * i + 1 + 1 by omega]
        exact rep_shift _ _
      simp only [go_sem,Nat.reduceAdd,Nat.reduceSub,Nat.reduceMul,Nat.reduceEqDiff,Nat.reduceLeDiff,Nat.reduceLT,↓reduceIte,Int.reduceToNat,reduceCtorEq,Int.reduceLT,Int.reduceLE,Int.reduceGT,Int.reduceGE,Int.reduceEq,Int.reduceNe,Int.reduceNeg,Int.reduceAdd,Int.reduceSub,pageV,putsCh,List.length_map,hp,ho,q1,q2]
      refine ⟨_, rfl, ?_⟩
      refine draw [.qu 0 0, .qu 0 0, .qu 0 0, .mn 0, .qu 1 1, .mn 1] (by kernel_rfl) (by kernel_rfl) ?_
      have e7 : ((pageB s.byt (i + 1)).map bv).map (fun x => [x]) = (pageB s.byt (i + 1)).map rb := by simp [Function.comp]
      have e8 : (s.byt.take (64 * (i + 1))).length = 64 * (i + 1) := by have := hs.len; simp; omega
      have e9 : ((s.byt.take (64 * (i + 1))).map rb).take (64 * (i + 1)) = (s.byt.take (64 * (i + 1))).map rb := List.take_of_length_le (by simp; omega)
      have g1 : 64 * (i + 1) + 64 ≤ 68719476736 := by omega
      have q6 : ∀ x : Blk, (R ++ [x]).length = 2 * (i + 1) + 1 := fun x => by simp; omega
      simp only [go_sem,Nat.reduceAdd,Nat.reduceSub,Nat.reduceMul,Nat.reduceEqDiff,Nat.reduceLeDiff,Nat.reduceLT,↓reduceIte,Int.reduceToNat,reduceCtorEq,Int.reduceLT,Int.reduceLE,Int.reduceGT,Int.reduceGE,Int.reduceEq,Int.reduceNe,Int.reduceNeg,Int.reduceAdd,Int.reduceSub,q1,q2,q3,q4,q5,q6,e6,e7,e8,e9,g1,List.length_map,hp]
      refine ⟨Ch.nil.put 3 (.ptr 2 0 0), _, (Wk.slots (by simp [wkS])).trans (Wk.dead (R.length + 1 + 1 + 1 + 1 + 1)), rfl, ?_⟩
      simp only [List.set_cons_succ, List.set_cons_zero]
      have e10 : (s.byt.take (64 * (i + 1))).map rb ++ (pageB s.byt (i + 1)).map rb = (s.byt.take (64 * (i + 1 + 1))).map rb := by
        rw [← List.map_append, pageB, show 64 * (i + 1 + 1) = 64 * (i + 1) + 64 by omega, List.take_add]
      have e11 : 64 * (i + 1) + 64 = 64 * (i + 1 + 1) := by omega
      rw [q7, e10, e11]
  · rintro o H ⟨rfl, rfl⟩
    have hl := hs.len
    rcases hn : s.perm.length with _ | m
    · have hb : s.byt = [] := List.length_eq_zero_iff.1 (by omega)
      have hp : s.perm = [] := List.length_eq_zero_iff.1 hn
      refine ⟨.ready, none, _, rfl, (by intro h; cases h), ?_⟩
      refine ⟨(Ch.nil.put 2 (.ptr 1 0 0)).put 3 (.ptr 2 0 0), _, Wk.slots (by simp [wkS, Ch.get]), fun dd => ?_⟩
      simp only [go_sem,Nat.reduceAdd,Nat.reduceSub,Nat.reduceMul,Nat.reduceEqDiff,Nat.reduceLeDiff,Nat.reduceLT,↓reduceIte,Int.reduceToNat,reduceCtorEq,Int.reduceLT,Int.reduceLE,Int.reduceGT,Int.reduceGE,Int.reduceEq,Int.reduceNe,Int.reduceNeg,Int.reduceAdd,Int.reduceSub,cpH,spB]
      refine .ghost (.rows 1 []) (.le (o' := .ret (.agg [.view false 1 (s.perm.map r1), .sl 5 0 0 none])) ?_ (LeH.refl _) (.pick (o' := .ret (.agg [.view false 1 (s.perm.map r1), .sl 0 0 0 none])) (H' := [.rows 1 []]) [5] (by simp) rfl rfl rfl (.done ?_)))
      · exact .ret (.agg (.cons (.refl _) (.cons (.sl0 0 5 0) .nil)))
      · rw [hb]; exact ⟨rfl, rfl⟩
    · refine ⟨.ready, none, _, rfl, (by intro h; cases h), ?_⟩
      refine ⟨(Ch.nil.put 2 (.ptr 0 0 0)).put 3 (.ptr 1 0 0), [spB (.view true 0 []) (.view true 0 []), spB (.view false 1 (s.perm.map r1)) (.sl 2 0 s.byt.length none), .rows 1 (s.byt.map rb)], Wk.pick [1, 2, 2 * m + 1 + 5] ?_ ?_ ?_ ?_, fun dd => ?_⟩
      · simp
      · rfl
      · have q' : (List.replicate (2 * m + 1) Blk.dead ++ [Blk.rows 1 ((s.byt.take (64 * (m + 1))).map rb)])[2 * m + 1]? = some (.rows 1 (s.byt.map rb)) := by
          simp
          rw [← List.map_take, List.take_of_length_le (by omega)]
        simp only [cpH, List.cons_append, List.nil_append, List.map_cons, List.map_nil, List.set_cons_succ, List.set_cons_zero, List.getElem?_cons_succ, List.getElem?_cons_zero, q']
        simp [spB, Blk.ren, AV.ren, pi, hl, hn]
        rw [← List.map_take, List.take_of_length_le (by omega)]
        exact List.map_congr_left fun b _ => by simp [AV.ren]
      · simp [wkP, Ch.get, AV.ren, pi]
      · simp only [go_sem,Nat.reduceAdd,Nat.reduceSub,Nat.reduceMul,Nat.reduceEqDiff,Nat.reduceLeDiff,Nat.reduceLT,↓reduceIte,Int.reduceToNat,reduceCtorEq,Int.reduceLT,Int.reduceLE,Int.reduceGT,Int.reduceGE,Int.reduceEq,Int.reduceNe,Int.reduceNeg,Int.reduceAdd,Int.reduceSub,spB,copied_res]
        refine .pick (o' := .ret (.agg [.view false 1 (s.perm.map r1), .sl 0 0 s.byt.length none])) (H' := [.rows 1 (s.byt.map rb)]) [2] (by simp) rfl ?_ rfl (.done ⟨rfl, rfl⟩)
        simp [Blk.ren, Function.comp, AV.ren]
end Go.Proofs.YtojfnagfafoiaaaDoor

set_option maxRecDepth 100000
set_option linter.unusedVariables false
set_option linter.unusedSimpArgs false
namespace Go.Proofs.YtojfnagfafoiaaaDoor
open Go.AM
theorem bytl {s : Sp} (h : s.ok) : s.byt.length ≤ 2048 := by have := h.p32; have := h.len; omega
theorem tk_r1 (l : List Int) : (l.map r1).take l.length = l.map r1 := List.take_of_length_le (by simp)
/-- A space with other bytes from a position on. -/
def Sp.wr (s : Sp) (pos : Nat) (b : List UInt8) : Sp := ⟨s.perm, s.byt.take pos ++ b ++ s.byt.drop (pos + b.length)⟩
theorem wr_nil (s : Sp) (pos : Nat) : s.wr pos [] = s := by simp [Sp.wr]
theorem wr_ok {s : Sp} (hs : s.ok) {pos : Nat} {b : List UInt8} (h : pos + b.length ≤ s.byt.length) : (s.wr pos b).ok := ⟨hs.p32, by simp [Sp.wr]; have := hs.len; omega, hs.all⟩
theorem poke_c (s : Sp) (hs : s.ok) (pos : Int) (hpos : I64 pos) (b : List UInt8) (hb : b.length ≤ 2048) (hf : (s.flt pos 0 b.length 0).kind = 0) :
    ACalls Tryd.prog 79 [s.av, iv pos, .view false 1 (b.map rb)] [] (fun o H => o = .ret (.tuple [(s.wr pos.toNat b).av, .agg [iv 0, iv 0], iv 0]) ∧ H = []) := by
  refine ACalls.up ?_
  refine ACalls.intro (cs := []) (n := 47) Tryd.func79 rfl rfl rfl (by kernel_rfl) rfl ?_
  generalize hpost : (fun (o : Out) (H : Heap) => o = Out.ret (.tuple [(s.wr pos.toNat b).av, .agg [iv 0, iv 0], iv 0]) ∧ H = []) = post
  simp only [go_sem,Nat.reduceAdd,Nat.reduceSub,Nat.reduceMul,Nat.reduceEqDiff,Nat.reduceLeDiff,Nat.reduceLT,↓reduceIte,Int.reduceToNat,reduceCtorEq,Int.reduceLT,Int.reduceLE,Int.reduceGT,Int.reduceGE,Int.reduceEq,Int.reduceNe,Int.reduceNeg,Int.reduceAdd,Int.reduceSub,Sp.av]
  refine rK_use (enters_of Tryd.func50 rfl (by decide)) (ACalls.pure_use (mcheck_c s) rfl rfl) ?_
  rw [Sp.chk_ok hs]
  have h2 : ¬ ((2048 : Int) < b.length) := by omega
  have hl := hs.len
  have hp32 := hs.p32
  simp only [go_sem,Nat.reduceAdd,Nat.reduceSub,Nat.reduceMul,Nat.reduceEqDiff,Nat.reduceLeDiff,Nat.reduceLT,↓reduceIte,Int.reduceToNat,reduceCtorEq,Int.reduceLT,Int.reduceLE,Int.reduceGT,Int.reduceGE,Int.reduceEq,Int.reduceNe,Int.reduceNeg,Int.reduceAdd,Int.reduceSub,List.length_map,h2]
  refine rK_use (enters_of Tryd.func94 rfl (by decide)) (ACalls.pure_use (faults_c s hs pos 0 b.length (by omega) (by simp)) rfl rfl) ?_
  rw [flt0 _ _ _ _ _ hf]
  simp only [go_sem,Nat.reduceAdd,Nat.reduceSub,Nat.reduceMul,Nat.reduceEqDiff,Nat.reduceLeDiff,Nat.reduceLT,↓reduceIte,Int.reduceToNat,reduceCtorEq,Int.reduceLT,Int.reduceLE,Int.reduceGT,Int.reduceGE,Int.reduceEq,Int.reduceNe,Int.reduceNeg,Int.reduceAdd,Int.reduceSub,Flt.cells]
  refine rK_use (enters_of Tryd.func95 rfl (by decide)) (ACalls.fresh (v' := .agg [.view false 1 (s.perm.map r1), .sl 4 0 s.byt.length none]) (copied_c s hs) rfl (blt0 (rb_lt0 _)) rfl) ?_
  simp only [go_sem,Nat.reduceAdd,Nat.reduceSub,Nat.reduceMul,Nat.reduceEqDiff,Nat.reduceLeDiff,Nat.reduceLT,↓reduceIte,Int.reduceToNat,reduceCtorEq,Int.reduceLT,Int.reduceLE,Int.reduceGT,Int.reduceGE,Int.reduceEq,Int.reduceNe,Int.reduceNeg,Int.reduceAdd,Int.reduceSub,List.length_map]
  have hbl : s.byt.length ≤ 2048 := by omega
  have fin : ∀ (t : Sp) (H : Heap), H[4]? = some (.rows 1 (t.byt.map rb)) → t.perm = s.perm → t.byt.length = s.byt.length → t = s.wr pos.toNat b → Up 0 post (.ret (.tuple [.agg [.view false 1 (s.perm.map r1), .sl 4 0 s.byt.length none], .agg [iv 0, iv 0], iv 0])) H := fun t H hH h1 h2 h3 => by
    refine up_one 4 1 (t.byt.map rb) hH (rb_lt0 _) (by simp [Out.fzOk, AV.fzOk, fzOkL, h2]) (by simp [Out.fz, AV.fz, fzL, Out.lt, AV.lt, ltL]) ?_
    rw [← hpost, ← h3]
    simp [Out.fz, AV.fz, fzL, Sp.av, h1, ← h2]
    rw [List.take_of_length_le (by simp)]
  refine condD_dec (fun hc => ?_) (fun hc => ?_)
  · have hin := (flt_in (perm := 0) hpos (by omega) b.length 0 (by omega) (by omega) (.inr rfl) hf).resolve_left (by omega)
    obtain ⟨p0, p1⟩ := hin
    have e1 : pos ≤ s.byt.length := by omega
    have e2 : (0 : Nat) + pos.toNat = pos.toNat := by omega
    have g1 : b.length ≤ s.byt.length - pos.toNat ∧ pos.toNat + (s.byt.length - pos.toNat) ≤ s.byt.length := by omega
    simp only [go_sem,Nat.reduceAdd,Nat.reduceSub,Nat.reduceMul,Nat.reduceEqDiff,Nat.reduceLeDiff,Nat.reduceLT,↓reduceIte,Int.reduceToNat,reduceCtorEq,Int.reduceLT,Int.reduceLE,Int.reduceGT,Int.reduceGE,Int.reduceEq,Int.reduceNe,Int.reduceNeg,Int.reduceAdd,Int.reduceSub,List.length_map,p0,e1,g1]
    refine fin (s.wr pos.toNat b) _ ?_ rfl ?_ rfl
    · simp [Sp.wr, List.map_append, List.map_take, List.map_drop]
    · simp [Sp.wr]; omega
  · simp only [go_sem,Nat.reduceAdd,Nat.reduceSub,Nat.reduceMul,Nat.reduceEqDiff,Nat.reduceLeDiff,Nat.reduceLT,↓reduceIte,Int.reduceToNat,reduceCtorEq,Int.reduceLT,Int.reduceLE,Int.reduceGT,Int.reduceGE,Int.reduceEq,Int.reduceNe,Int.reduceNeg,Int.reduceAdd,Int.reduceSub]
    have : b = [] := List.length_eq_zero_iff.1 (by omega)
    exact fin s _ rfl rfl rfl (by rw [this, wr_nil])
end Go.Proofs.YtojfnagfafoiaaaDoor

set_option maxRecDepth 100000
set_option linter.unusedVariables false
set_option linter.unusedSimpArgs false
namespace Go.Proofs.YtojfnagfafoiaaaDoor
open Go.AM
theorem bclone_c (xs : List UInt8) (full : Bool) (hl : xs.length ≤ 1000000) : ACalls Tryd.prog 80 [.view full 1 (xs.map rb)] [] (fun o H => o = .ret (.view false 1 (xs.map rb)) ∧ H = []) := by
  refine ACalls.up ?_
  refine ACalls.intro (cs := []) (n := 8) Tryd.func80 rfl rfl rfl (by kernel_rfl) rfl ?_
  generalize hpost : (fun (o : Out) (H : Heap) => o = Out.ret (.view false 1 (xs.map rb)) ∧ H = []) = post
  simp only [go_sem,Nat.reduceAdd,Nat.reduceSub,Nat.reduceMul,Nat.reduceEqDiff,Nat.reduceLeDiff,Nat.reduceLT,↓reduceIte,Int.reduceToNat,reduceCtorEq,Int.reduceLT,Int.reduceLE,Int.reduceGT,Int.reduceGE,Int.reduceEq,Int.reduceNe,Int.reduceNeg,Int.reduceAdd,Int.reduceSub,rK_ndb]
  intro b hb
  refine condD_split (fun e => ?_) (fun e => ?_)
  · have hl0 : xs = [] := by
      rw [List.length_map] at hb
      rcases xs with _ | ⟨x, l⟩
      · rfl
      · have := hb (by simp); rw [e] at this; cases this
    subst hl0
    simp only [go_sem,Nat.reduceAdd,Nat.reduceSub,Nat.reduceMul,Nat.reduceEqDiff,Nat.reduceLeDiff,Nat.reduceLT,↓reduceIte,Int.reduceToNat,reduceCtorEq,Int.reduceLT,Int.reduceLE,Int.reduceGT,Int.reduceGE,Int.reduceEq,Int.reduceNe,Int.reduceNeg,Int.reduceAdd,Int.reduceSub]
    refine .le (.ret (.nil true false 0 1 (by simp))) .nil (.done ?_)
    rw [← hpost]
    exact ⟨rfl, rfl⟩
  · have e5 : xs.length ≤ 68719476736 := by omega
    simp only [go_sem,Nat.reduceAdd,Nat.reduceSub,Nat.reduceMul,Nat.reduceEqDiff,Nat.reduceLeDiff,Nat.reduceLT,↓reduceIte,Int.reduceToNat,reduceCtorEq,Int.reduceLT,Int.reduceLE,Int.reduceGT,Int.reduceGE,Int.reduceEq,Int.reduceNe,Int.reduceNeg,Int.reduceAdd,Int.reduceSub,List.length_map,e5]
    refine up_one 1 1 (xs.map rb) rfl (rb_lt0 _) (by simp [Out.fzOk, AV.fzOk]) ?_ ?_
    · simp [Out.fz, AV.fz, Out.lt, AV.lt]
    · rw [← hpost]
      have e4 : (xs.map rb).take xs.length = xs.map rb := List.take_of_length_le (by simp)
      simp [Out.fz, AV.fz, e4]
/-- What may be applied. -/
structure Fits (s : Sp) (e : Eff) : Prop where
  len : e.data.length ≤ 8
  pos : e.data.length = 0 → e.pos = 0
  trap : 0 < e.data.length → e.trap.kind = 0
  flt : (s.flt e.pos 2 e.data.length 0).kind = 0
def sp0 : Sp := ⟨[], []⟩
def spN : AV := .agg [.view true 0 [], .view true 0 []]
theorem spN_le : LeV spN sp0.av := .agg (.cons (.nil true false 0 1 (by simp)) (.cons (.nil true false 0 1 (by simp)) .nil))
open Classical in
noncomputable def applyR (s : Sp) (e : Eff) : Sp × Int := if s.ok then (if Fits s e then (s.wr e.pos.toNat e.data, 0) else (sp0, 40)) else (sp0, 30)
theorem wr_av (s : Sp) (k : Nat) (b : List UInt8) : (s.wr k b).av = .agg [.view false 1 (s.perm.map r1), .view false 1 ((s.wr k b).byt.map rb)] := rfl
theorem Apply_c (s : Sp) (e : Eff) (hp : I64 e.pos) : ACalls Tryd.prog 41 [s.av, e.av] [] (fun o H => o = .ret (.tuple [(applyR s e).1.av, iv (applyR s e).2]) ∧ H = []) := by
  refine ACalls.up ?_
  refine ACalls.intro (cs := []) (n := 66) Tryd.func41 rfl rfl rfl (by kernel_rfl) rfl ?_
  generalize hpost : (fun (o : Out) (H : Heap) => o = Out.ret (.tuple [(applyR s e).1.av, iv (applyR s e).2]) ∧ H = []) = post
  have fin : ∀ (t : Sp) (n : Int) H, applyR s e = (t, n) → Up 0 post (.ret (.tuple [t.av, iv n])) H := fun t n H h => finv rfl (by rw [← hpost, h]; exact ⟨rfl, rfl⟩) H
  have finN : ∀ (n : Int) H, applyR s e = (sp0, n) → Up 0 post (.ret (.tuple [spN, iv n])) H := fun n H h => .le (.ret (.tuple (.cons spN_le (.cons (.refl _) .nil)))) (LeH.refl _) (fin sp0 n H h)
  simp only [go_sem,Nat.reduceAdd,Nat.reduceSub,Nat.reduceMul,Nat.reduceEqDiff,Nat.reduceLeDiff,Nat.reduceLT,↓reduceIte,Int.reduceToNat,reduceCtorEq,Int.reduceLT,Int.reduceLE,Int.reduceGT,Int.reduceGE,Int.reduceEq,Int.reduceNe,Int.reduceNeg,Int.reduceAdd,Int.reduceSub,Sp.av,Eff.av,Eff.cells,Eff.cellsD]
  refine rK_use (enters_of Tryd.func50 rfl (by decide)) (ACalls.pure_use (mcheck_c s) rfl rfl) ?_
  by_cases hs : s.ok
  rotate_left
  · rw [Sp.chk, if_neg hs]
    simp only [go_sem,Nat.reduceAdd,Nat.reduceSub,Nat.reduceMul,Nat.reduceEqDiff,Nat.reduceLeDiff,Nat.reduceLT,↓reduceIte,Int.reduceToNat,reduceCtorEq,Int.reduceLT,Int.reduceLE,Int.reduceGT,Int.reduceGE,Int.reduceEq,Int.reduceNe,Int.reduceNeg,Int.reduceAdd,Int.reduceSub]
    exact finN 30 _ (by rw [applyR, if_neg hs])
  rw [Sp.chk_ok hs]
  have bad : ¬ Fits s e → applyR s e = (sp0, 40) := fun h => by rw [applyR, if_pos hs, if_neg h]
  simp only [go_sem,Nat.reduceAdd,Nat.reduceSub,Nat.reduceMul,Nat.reduceEqDiff,Nat.reduceLeDiff,Nat.reduceLT,↓reduceIte,Int.reduceToNat,reduceCtorEq,Int.reduceLT,Int.reduceLE,Int.reduceGT,Int.reduceGE,Int.reduceEq,Int.reduceNe,Int.reduceNeg,Int.reduceAdd,Int.reduceSub,List.length_map]
  rcases Decidable.em ((8 : Int) < e.data.length) with h8 | h8
  · simp only [go_sem,Nat.reduceAdd,Nat.reduceSub,Nat.reduceMul,Nat.reduceEqDiff,Nat.reduceLeDiff,Nat.reduceLT,↓reduceIte,Int.reduceToNat,reduceCtorEq,Int.reduceLT,Int.reduceLE,Int.reduceGT,Int.reduceGE,Int.reduceEq,Int.reduceNe,Int.reduceNeg,Int.reduceAdd,Int.reduceSub,eq_true h8]
    exact finN 40 _ (bad fun h => by have := h.len; omega)
  simp only [go_sem,Nat.reduceAdd,Nat.reduceSub,Nat.reduceMul,Nat.reduceEqDiff,Nat.reduceLeDiff,Nat.reduceLT,↓reduceIte,Int.reduceToNat,reduceCtorEq,Int.reduceLT,Int.reduceLE,Int.reduceGT,Int.reduceGE,Int.reduceEq,Int.reduceNe,Int.reduceNeg,Int.reduceAdd,Int.reduceSub,eq_false h8]
  have good : Fits s e → applyR s e = (s.wr e.pos.toNat e.data, 0) := fun h => by rw [applyR, if_pos hs, if_pos h]
  rcases Decidable.em ((e.data.length : Int) = 0) with h0 | h0
  · have h1 : ¬ (0 : Int) < e.data.length := by omega
    rcases Decidable.em (e.pos = 0) with hp0 | hp0
    · have fi : (s.flt e.pos 2 e.data.length 0).kind = 0 → Fits s e := fun h => ⟨by omega, fun _ => hp0, fun h => by omega, h⟩
      simp only [go_sem,Nat.reduceAdd,Nat.reduceSub,Nat.reduceMul,Nat.reduceEqDiff,Nat.reduceLeDiff,Nat.reduceLT,↓reduceIte,Int.reduceToNat,reduceCtorEq,Int.reduceLT,Int.reduceLE,Int.reduceGT,Int.reduceGE,Int.reduceEq,Int.reduceNe,Int.reduceNeg,Int.reduceAdd,Int.reduceSub,eq_true h0,eq_false h1,eq_true hp0]
      refine rK_use (enters_of Tryd.func78 rfl (by decide)) (ACalls.pure_use (access_c s hs e.pos 2 e.data.length (by omega) (by simp)) rfl rfl) ?_
      simp only [go_sem,Nat.reduceAdd,Nat.reduceSub,Nat.reduceMul,Nat.reduceEqDiff,Nat.reduceLeDiff,Nat.reduceLT,↓reduceIte,Int.reduceToNat,reduceCtorEq,Int.reduceLT,Int.reduceLE,Int.reduceGT,Int.reduceGE,Int.reduceEq,Int.reduceNe,Int.reduceNeg,Int.reduceAdd,Int.reduceSub]
      refine rK_use (enters_of Tryd.func77 rfl (by decide)) (ACalls.pure_use (mustF_c (s.flt e.pos 2 e.data.length 0)) rfl rfl) ?_
      rcases Decidable.em ((s.flt e.pos 2 e.data.length 0).kind = 0) with hk | hk
      rotate_left
      · simp only [go_sem,Nat.reduceAdd,Nat.reduceSub,Nat.reduceMul,Nat.reduceEqDiff,Nat.reduceLeDiff,Nat.reduceLT,↓reduceIte,Int.reduceToNat,reduceCtorEq,Int.reduceLT,Int.reduceLE,Int.reduceGT,Int.reduceGE,Int.reduceEq,Int.reduceNe,Int.reduceNeg,Int.reduceAdd,Int.reduceSub,Flt.cells,hk]
        exact finN 40 _ (bad fun h => hk h.flt)
      have hfit := fi hk
      simp only [go_sem,Nat.reduceAdd,Nat.reduceSub,Nat.reduceMul,Nat.reduceEqDiff,Nat.reduceLeDiff,Nat.reduceLT,↓reduceIte,Int.reduceToNat,reduceCtorEq,Int.reduceLT,Int.reduceLE,Int.reduceGT,Int.reduceGE,Int.reduceEq,Int.reduceNe,Int.reduceNeg,Int.reduceAdd,Int.reduceSub,Flt.cells,hk]
      refine drawG [.rows 2 [[.view true 0 [], .view true 0 []]], .rows 2 [[iv 0, iv 0]]] [.qu 0 0, .qu 0 0, .qu 0 0, .qu 0 0, .qu 0 0, .qu 0 0, .qu 0 0, .qu 0 0, .qu 0 0, .qu 0 1, .qu 0 2, .gm 3 0 0, .gm 4 0 0, .mn 0, .mn 1, .qu 2 2] (by kernel_rfl) (by kernel_rfl) (by kernel_rfl) ?_
      simp only [go_sem,Nat.reduceAdd,Nat.reduceSub,Nat.reduceMul,Nat.reduceEqDiff,Nat.reduceLeDiff,Nat.reduceLT,↓reduceIte,Int.reduceToNat,reduceCtorEq,Int.reduceLT,Int.reduceLE,Int.reduceGT,Int.reduceGE,Int.reduceEq,Int.reduceNe,Int.reduceNeg,Int.reduceAdd,Int.reduceSub]
      refine y_call (enters_of Tryd.func80 rfl (by decide)) (fun _ => ACalls.pure_use (bclone_c e.data false (by omega)) rfl rfl) ?_
      simp only [go_sem,Nat.reduceAdd,Nat.reduceSub,Nat.reduceMul,Nat.reduceEqDiff,Nat.reduceLeDiff,Nat.reduceLT,↓reduceIte,Int.reduceToNat,reduceCtorEq,Int.reduceLT,Int.reduceLE,Int.reduceGT,Int.reduceGE,Int.reduceEq,Int.reduceNe,Int.reduceNeg,Int.reduceAdd,Int.reduceSub]
      refine y_call (enters_of Tryd.func79 rfl (by decide)) (fun _ => ACalls.pure_use (poke_c s hs e.pos hp e.data (by omega) (flt_perm0 _ _ hk)) rfl rfl) ?_
      simp only [go_sem,Nat.reduceAdd,Nat.reduceSub,Nat.reduceMul,Nat.reduceEqDiff,Nat.reduceLeDiff,Nat.reduceLT,↓reduceIte,Int.reduceToNat,reduceCtorEq,Int.reduceLT,Int.reduceLE,Int.reduceGT,Int.reduceGE,Int.reduceEq,Int.reduceNe,Int.reduceNeg,Int.reduceAdd,Int.reduceSub,wr_av]
      refine y_gm (b := .rows 2 [[.view true 0 [], .view true 0 []]]) (len := 0) ?_ rfl trivial ?_
      · exact ⟨_, T27, rfl, rfl, rfl⟩
      simp only [go_sem,Nat.reduceAdd,Nat.reduceSub,Nat.reduceMul,Nat.reduceEqDiff,Nat.reduceLeDiff,Nat.reduceLT,↓reduceIte,Int.reduceToNat,reduceCtorEq,Int.reduceLT,Int.reduceLE,Int.reduceGT,Int.reduceGE,Int.reduceEq,Int.reduceNe,Int.reduceNeg,Int.reduceAdd,Int.reduceSub]
      refine y_gm (b := .rows 2 [[iv 0, iv 0]]) (len := 0) ?_ rfl trivial ?_
      · exact ⟨_, T33, rfl, rfl, rfl⟩
      simp only [go_sem,Nat.reduceAdd,Nat.reduceSub,Nat.reduceMul,Nat.reduceEqDiff,Nat.reduceLeDiff,Nat.reduceLT,↓reduceIte,Int.reduceToNat,reduceCtorEq,Int.reduceLT,Int.reduceLE,Int.reduceGT,Int.reduceGE,Int.reduceEq,Int.reduceNe,Int.reduceNeg,Int.reduceAdd,Int.reduceSub]
      exact fin _ 0 _ (good hfit)
    · simp only [go_sem,Nat.reduceAdd,Nat.reduceSub,Nat.reduceMul,Nat.reduceEqDiff,Nat.reduceLeDiff,Nat.reduceLT,↓reduceIte,Int.reduceToNat,reduceCtorEq,Int.reduceLT,Int.reduceLE,Int.reduceGT,Int.reduceGE,Int.reduceEq,Int.reduceNe,Int.reduceNeg,Int.reduceAdd,Int.reduceSub,eq_true h0,eq_false hp0]
      exact finN 40 _ (bad fun h => hp0 (h.pos (by omega)))
  · have h1 : (0 : Int) < e.data.length := by omega
    rcases Decidable.em (e.trap.kind = 0) with ht | ht
    · have fi : (s.flt e.pos 2 e.data.length 0).kind = 0 → Fits s e := fun h => ⟨by omega, fun h => by omega, fun _ => ht, h⟩
      simp only [go_sem,Nat.reduceAdd,Nat.reduceSub,Nat.reduceMul,Nat.reduceEqDiff,Nat.reduceLeDiff,Nat.reduceLT,↓reduceIte,Int.reduceToNat,reduceCtorEq,Int.reduceLT,Int.reduceLE,Int.reduceGT,Int.reduceGE,Int.reduceEq,Int.reduceNe,Int.reduceNeg,Int.reduceAdd,Int.reduceSub,eq_false h0,eq_true h1,eq_true ht]
      refine rK_use (enters_of Tryd.func78 rfl (by decide)) (ACalls.pure_use (access_c s hs e.pos 2 e.data.length (by omega) (by simp)) rfl rfl) ?_
      simp only [go_sem,Nat.reduceAdd,Nat.reduceSub,Nat.reduceMul,Nat.reduceEqDiff,Nat.reduceLeDiff,Nat.reduceLT,↓reduceIte,Int.reduceToNat,reduceCtorEq,Int.reduceLT,Int.reduceLE,Int.reduceGT,Int.reduceGE,Int.reduceEq,Int.reduceNe,Int.reduceNeg,Int.reduceAdd,Int.reduceSub]
      refine rK_use (enters_of Tryd.func77 rfl (by decide)) (ACalls.pure_use (mustF_c (s.flt e.pos 2 e.data.length 0)) rfl rfl) ?_
      rcases Decidable.em ((s.flt e.pos 2 e.data.length 0).kind = 0) with hk | hk
      rotate_left
      · simp only [go_sem,Nat.reduceAdd,Nat.reduceSub,Nat.reduceMul,Nat.reduceEqDiff,Nat.reduceLeDiff,Nat.reduceLT,↓reduceIte,Int.reduceToNat,reduceCtorEq,Int.reduceLT,Int.reduceLE,Int.reduceGT,Int.reduceGE,Int.reduceEq,Int.reduceNe,Int.reduceNeg,Int.reduceAdd,Int.reduceSub,Flt.cells,hk]
        exact finN 40 _ (bad fun h => hk h.flt)
      have hfit := fi hk
      simp only [go_sem,Nat.reduceAdd,Nat.reduceSub,Nat.reduceMul,Nat.reduceEqDiff,Nat.reduceLeDiff,Nat.reduceLT,↓reduceIte,Int.reduceToNat,reduceCtorEq,Int.reduceLT,Int.reduceLE,Int.reduceGT,Int.reduceGE,Int.reduceEq,Int.reduceNe,Int.reduceNeg,Int.reduceAdd,Int.reduceSub,Flt.cells,hk]
      refine drawG [.rows 2 [[.view true 0 [], .view true 0 []]], .rows 2 [[iv 0, iv 0]]] [.qu 0 0, .qu 0 0, .qu 0 0, .qu 0 0, .qu 0 0, .qu 0 0, .qu 0 0, .qu 0 0, .qu 0 0, .qu 0 1, .qu 0 2, .gm 3 0 0, .gm 4 0 0, .mn 0, .mn 1, .qu 2 2] (by kernel_rfl) (by kernel_rfl) (by kernel_rfl) ?_
      simp only [go_sem,Nat.reduceAdd,Nat.reduceSub,Nat.reduceMul,Nat.reduceEqDiff,Nat.reduceLeDiff,Nat.reduceLT,↓reduceIte,Int.reduceToNat,reduceCtorEq,Int.reduceLT,Int.reduceLE,Int.reduceGT,Int.reduceGE,Int.reduceEq,Int.reduceNe,Int.reduceNeg,Int.reduceAdd,Int.reduceSub]
      refine y_call (enters_of Tryd.func80 rfl (by decide)) (fun _ => ACalls.pure_use (bclone_c e.data false (by omega)) rfl rfl) ?_
      simp only [go_sem,Nat.reduceAdd,Nat.reduceSub,Nat.reduceMul,Nat.reduceEqDiff,Nat.reduceLeDiff,Nat.reduceLT,↓reduceIte,Int.reduceToNat,reduceCtorEq,Int.reduceLT,Int.reduceLE,Int.reduceGT,Int.reduceGE,Int.reduceEq,Int.reduceNe,Int.reduceNeg,Int.reduceAdd,Int.reduceSub]
      refine y_call (enters_of Tryd.func79 rfl (by decide)) (fun _ => ACalls.pure_use (poke_c s hs e.pos hp e.data (by omega) (flt_perm0 _ _ hk)) rfl rfl) ?_
      simp only [go_sem,Nat.reduceAdd,Nat.reduceSub,Nat.reduceMul,Nat.reduceEqDiff,Nat.reduceLeDiff,Nat.reduceLT,↓reduceIte,Int.reduceToNat,reduceCtorEq,Int.reduceLT,Int.reduceLE,Int.reduceGT,Int.reduceGE,Int.reduceEq,Int.reduceNe,Int.reduceNeg,Int.reduceAdd,Int.reduceSub,wr_av]
      refine y_gm (b := .rows 2 [[.view true 0 [], .view true 0 []]]) (len := 0) ?_ rfl trivial ?_
      · exact ⟨_, T27, rfl, rfl, rfl⟩
      simp only [go_sem,Nat.reduceAdd,Nat.reduceSub,Nat.reduceMul,Nat.reduceEqDiff,Nat.reduceLeDiff,Nat.reduceLT,↓reduceIte,Int.reduceToNat,reduceCtorEq,Int.reduceLT,Int.reduceLE,Int.reduceGT,Int.reduceGE,Int.reduceEq,Int.reduceNe,Int.reduceNeg,Int.reduceAdd,Int.reduceSub]
      refine y_gm (b := .rows 2 [[iv 0, iv 0]]) (len := 0) ?_ rfl trivial ?_
      · exact ⟨_, T33, rfl, rfl, rfl⟩
      simp only [go_sem,Nat.reduceAdd,Nat.reduceSub,Nat.reduceMul,Nat.reduceEqDiff,Nat.reduceLeDiff,Nat.reduceLT,↓reduceIte,Int.reduceToNat,reduceCtorEq,Int.reduceLT,Int.reduceLE,Int.reduceGT,Int.reduceGE,Int.reduceEq,Int.reduceNe,Int.reduceNeg,Int.reduceAdd,Int.reduceSub]
      exact fin _ 0 _ (good hfit)
    · simp only [go_sem,Nat.reduceAdd,Nat.reduceSub,Nat.reduceMul,Nat.reduceEqDiff,Nat.reduceLeDiff,Nat.reduceLT,↓reduceIte,Int.reduceToNat,reduceCtorEq,Int.reduceLT,Int.reduceLE,Int.reduceGT,Int.reduceGE,Int.reduceEq,Int.reduceNe,Int.reduceNeg,Int.reduceAdd,Int.reduceSub,eq_false h0,eq_true h1,eq_false ht]
      exact finN 40 _ (bad fun h => ht (h.trap (by omega)))
end Go.Proofs.YtojfnagfafoiaaaDoor
