/- patch: PatchUndone, as the card states it. No condition. -/
import Derived.Test.YtfiflailjbmlpaaDoorZ5
import Derived.Test.YtfiflailjbmlpaaDoorTie
import Derived.Test.YtfiflailjbmlpaaDoorCards
import Derived.ProofKit
import Derived.OpenShut
import Derived.LaidMore
import Derived.Lay
import Derived.SevenTiedAt
import Derived.Stop.Joined
set_option maxRecDepth 100000
set_option linter.unusedVariables false
set_option linter.unusedSimpArgs false
namespace Go.Proofs.YtfiflailjbmlpaaDoor
open Go.AM
abbrev rz : List AV := [iv 0, .int .u8 0, iv 0]
theorem delete_c (l : List Pt) (i : Nat) (hi : i < l.length) (hl : l.length ≤ 1000) : ACalls Tryd.prog 40 [.sl 0 0 l.length none, iv i, iv ((i + 1 : Nat) : Int)] [.rows 3 (l.map rp)]
    (fun o H => o = .ret (.sl 0 0 (l.length - 1) none) ∧ H = [.rows 3 ((l.eraseIdx i).map rp ++ [rz])]) := by
  refine ACalls.caps fun c h1 h2 => ACalls.up ?_
  refine ACalls.intro (cs := []) (n := 33) Tryd.func40 rfl rfl rfl (by kernel_rfl) rfl ?_
  generalize hpost : (fun (o : Out) (H : Heap) => o = Out.ret (.sl 0 0 (l.length - 1) none) ∧ H = [.rows 3 ((l.eraseIdx i).map rp ++ [rz])]) = post
  have g1 : (0 : Int) ≤ i ∧ (i : Int) ≤ ((i + 1 : Nat) : Int) ∧ ((i + 1 : Nat) : Int) ≤ (l.length : Int) ∧ (l.length : Int) ≤ (c : Int) := ⟨by omega, by omega, by omega, by omega⟩
  have g2 : ¬ ((i : Int) = ((i + 1 : Nat) : Int)) := by omega
  simp only [go_sem,Nat.reduceAdd,Nat.reduceSub,Nat.reduceMul,Nat.reduceEqDiff,Nat.reduceLeDiff,Nat.reduceLT,↓reduceIte,Int.reduceToNat,reduceCtorEq,Int.reduceLT,Int.reduceLE,Int.reduceGT,Int.reduceGE,Int.reduceEq,Int.reduceNe,Int.reduceNeg,Int.reduceAdd,Int.reduceSub,g1,g2,Nat.sub_zero]
  refine draw [.qu 0 0, .qu 0 0, .qu 0 0, .qu 0 0, .qu 0 0, .qu 0 0, .mn 0, .qu 1 1] (by kernel_rfl) (by kernel_rfl) ?_
  have g3 : (i : Int) ≤ c ∧ (0 : Int) ≤ ((i + 1 : Nat) : Int) := ⟨by omega, by omega⟩
  have g4 : ¬ c = 0 := by omega
  have g5 : i ≤ l.length ∧ i + (l.length - (i + 1)) ≤ 68719476736 ∧ i + (l.length - (i + 1)) ≤ c := ⟨by omega, by omega, by omega⟩
  have e1 : ((l.map rp).drop (i + 1)).take (l.length - (i + 1)) = (l.drop (i + 1)).map rp := by
    rw [← List.map_drop, List.take_of_length_le (by simp)]
  have e2 : ((l.drop (i + 1)).map rp).length = l.length - (i + 1) := by simp
  simp only [go_sem,Nat.reduceAdd,Nat.reduceSub,Nat.reduceMul,Nat.reduceEqDiff,Nat.reduceLeDiff,Nat.reduceLT,↓reduceIte,Int.reduceToNat,reduceCtorEq,Int.reduceLT,Int.reduceLE,Int.reduceGT,Int.reduceGE,Int.reduceEq,Int.reduceNe,Int.reduceNeg,Int.reduceAdd,Int.reduceSub,g1,g3,g4,g5,Nat.sub_zero,e1,e2,List.length_map]
  have e3 : i + (l.length - (i + 1)) = l.length - 1 := by omega
  have e4 : (l.eraseIdx i).map rp = (l.map rp).take i ++ (l.drop (i + 1)).map rp := by
    rw [List.eraseIdx_eq_take_drop_succ, List.map_append, List.map_take]
  rw [e3]
  obtain ⟨R, hR⟩ : ∃ R, R = (l.map rp).take i ++ ((l.drop (i + 1)).map rp ++ (l.map rp).drop (l.length - 1)) := ⟨_, rfl⟩
  rw [← hR]
  have hRl : R.length = l.length := by rw [hR]; simp; omega
  have hR1 : R.take (l.length - 1) = (l.eraseIdx i).map rp := by
    rw [hR, ← List.append_assoc, ← e4, List.take_append_of_le_length (by simp [List.length_eraseIdx, hi]), List.take_of_length_le (by simp [List.length_eraseIdx, hi])]
  have g6 : (0 : Int) ≤ ((l.length - 1 : Nat) : Int) ∧ ((l.length - 1 : Nat) : Int) ≤ (l.length : Int) := ⟨by omega, by omega⟩
  have g7 : l.length - 1 + (l.length - (l.length - 1)) ≤ l.length ∧ l.length - (l.length - 1) = 1 := ⟨by omega, by omega⟩
  have g8 : l.length - 1 + 1 ≤ l.length := by omega
  have e5 : R.drop (l.length - 1 + 1) = [] := List.drop_of_length_le (by omega)
  simp only [go_sem,Nat.reduceAdd,Nat.reduceSub,Nat.reduceMul,Nat.reduceEqDiff,Nat.reduceLeDiff,Nat.reduceLT,↓reduceIte,Int.reduceToNat,reduceCtorEq,Int.reduceLT,Int.reduceLE,Int.reduceGT,Int.reduceGE,Int.reduceEq,Int.reduceNe,Int.reduceNeg,Int.reduceAdd,Int.reduceSub,g1,g3,g4,g5,g6,g7,g8,hRl,hR1,e5,Nat.sub_zero]
  refine .le (.ret (.cap ..)) (LeH.refl _) (.done ?_)
  rw [← hpost]
  exact ⟨rfl, rfl⟩
theorem ovl_ok : OvlOk Tryd.prog 76 := by
  refine ⟨Tryd.f76, 49, 4, 71, 3, Tryd.func76, by kernel_rfl, by kernel_rfl, by kernel_rfl, by kernel_rfl, Tryd.underlying49, fun w => ?_⟩
  exact run_size_ti T71 w
theorem insert_c (l : List Pt) (i : Nat) (hi : i ≤ l.length) (hl : l.length ≤ 1000) (x : Pt) : ACalls Tryd.prog 60 [.sl 0 0 l.length none, iv i, .sl 1 0 1 (some 1)] [.rows 3 (l.map rp), .rows 3 [rp x]]
    (fun o H => o = .ret (.sl 2 0 (l.length + 1) none) ∧ H = [.dead, .dead, .rows 3 ((l.take i ++ x :: l.drop i).map rp)]) := by
  refine ACalls.caps fun c h1 h2 => ACalls.up ?_
  refine ACalls.intro (cs := []) (n := 95) Tryd.func60 rfl rfl rfl (by kernel_rfl) rfl ?_
  generalize hpost : (fun (o : Out) (H : Heap) => o = Out.ret (.sl 2 0 (l.length + 1) none) ∧ H = [.dead, .dead, .rows 3 ((l.take i ++ x :: l.drop i).map rp)]) = post
  have g1 : (0 : Int) ≤ i ∧ (i : Int) ≤ (l.length : Int) := ⟨by omega, by omega⟩
  simp only [go_sem,Nat.reduceAdd,Nat.reduceSub,Nat.reduceMul,Nat.reduceEqDiff,Nat.reduceLeDiff,Nat.reduceLT,↓reduceIte,Int.reduceToNat,reduceCtorEq,Int.reduceLT,Int.reduceLE,Int.reduceGT,Int.reduceGE,Int.reduceEq,Int.reduceNe,Int.reduceNeg,Int.reduceAdd,Int.reduceSub,g1,Nat.sub_zero]
  refine condD_dec (fun hc => ?_) (fun hc => ?_)
  · have hil : i = l.length := by omega
    subst hil
    have g2 : l.length ≤ 68719476735 := by omega
    have e1 : (l.map rp).take l.length = l.map rp := List.take_of_length_le (by simp)
    have e2 : (l.map rp).drop (l.length + 1) = [] := List.drop_of_length_le (by simp)
    have e3 : (l.take l.length ++ x :: l.drop l.length).map rp = l.map rp ++ [rp x] := by simp
    rcases Decidable.em (c = 0) with h0 | h0
    · simp only [go_sem,Nat.reduceAdd,Nat.reduceSub,Nat.reduceMul,Nat.reduceEqDiff,Nat.reduceLeDiff,Nat.reduceLT,↓reduceIte,Int.reduceToNat,reduceCtorEq,Int.reduceLT,Int.reduceLE,Int.reduceGT,Int.reduceGE,Int.reduceEq,Int.reduceNe,Int.reduceNeg,Int.reduceAdd,Int.reduceSub,Nat.sub_zero,eq_true h0,g2,e1,List.length_map]
      refine .dead 1 (.done ?_)
      rw [← hpost, e3]
      exact ⟨rfl, rfl⟩
    · rcases Decidable.em (l.length + 1 ≤ c) with h3 | h3
      · simp only [go_sem,Nat.reduceAdd,Nat.reduceSub,Nat.reduceMul,Nat.reduceEqDiff,Nat.reduceLeDiff,Nat.reduceLT,↓reduceIte,Int.reduceToNat,reduceCtorEq,Int.reduceLT,Int.reduceLE,Int.reduceGT,Int.reduceGE,Int.reduceEq,Int.reduceNe,Int.reduceNeg,Int.reduceAdd,Int.reduceSub,Nat.sub_zero,eq_false h0,eq_true h3,g2,e1,e2,List.length_map]
        refine .le (.ret (.cap ..)) (LeH.refl _) (.mv (o' := .ret (.sl 2 0 (l.length + 1) none)) 0 (Nat.le_refl _) rfl rfl (.dead 1 (.done ?_)))
        rw [← hpost, e3]
        exact ⟨rfl, rfl⟩
      · simp only [go_sem,Nat.reduceAdd,Nat.reduceSub,Nat.reduceMul,Nat.reduceEqDiff,Nat.reduceLeDiff,Nat.reduceLT,↓reduceIte,Int.reduceToNat,reduceCtorEq,Int.reduceLT,Int.reduceLE,Int.reduceGT,Int.reduceGE,Int.reduceEq,Int.reduceNe,Int.reduceNeg,Int.reduceAdd,Int.reduceSub,Nat.sub_zero,eq_false h0,eq_false h3,g2,e1,e2,List.length_map]
        refine .dead 0 (.dead 1 (.done ?_))
        rw [← hpost, e3]
        exact ⟨rfl, rfl⟩
  · have e1 : iw .i64 ((l.length : Int) + 1) = ((l.length + 1 : Nat) : Int) := by rw [iw64] <;> omega
    have e2 : iw .i64 ((i : Int) + 1) = ((i + 1 : Nat) : Int) := by rw [iw64] <;> omega
    have e3 : iw .i64 (((l.length + 1 : Nat) : Int) - i) = ((l.length + 1 - i : Nat) : Int) := by rw [iw64] <;> omega
    have h0 : ¬ c = 0 := by omega
    have hil : i < l.length := by omega
    rcases Decidable.em (((c : Nat) : Int) < ((l.length + 1 : Nat) : Int)) with h3 | h3
    · have g3 : (0 : Int) ≤ (i : Int) ∧ (i : Int) ≤ (c : Int) := ⟨by omega, by omega⟩
      have g4 : i ≤ l.length ∧ (0 : Int) ≤ ((l.length + 1 - i : Nat) : Int) ∧ c < i + (l.length + 1 - i) ∧ i + (l.length + 1 - i) ≤ 68719476736 := ⟨by omega, by omega, by omega, by omega⟩
      simp only [go_sem,Nat.reduceAdd,Nat.reduceSub,Nat.reduceMul,Nat.reduceEqDiff,Nat.reduceLeDiff,Nat.reduceLT,↓reduceIte,Int.reduceToNat,reduceCtorEq,Int.reduceLT,Int.reduceLE,Int.reduceGT,Int.reduceGE,Int.reduceEq,Int.reduceNe,Int.reduceNeg,Int.reduceAdd,Int.reduceSub,Nat.sub_zero,e1,e2,e3,eq_true h3,eq_false h0,g3,g4,List.length_map]
      have e4 : i + (l.length + 1 - i) = l.length + 1 := by omega
      rw [e4]
      obtain ⟨A, hA⟩ : ∃ A, A = (l.map rp).take i ++ List.replicate (l.length + 1 - i) rz := ⟨_, rfl⟩
      rw [← hA]
      have hA1 : A.take i = (l.map rp).take i := by rw [hA, List.take_append_of_le_length (by simp; omega), List.take_take, Nat.min_self]
      have hA2 : A.length = l.length + 1 := by rw [hA]; simp; omega
      have g5 : (i : Int) ≤ ((l.length + 1 : Nat) : Int) ∧ 1 ≤ l.length + 1 - i ∧ i ≤ l.length + 1 := ⟨by omega, by omega, by omega⟩
      simp only [go_sem,Nat.reduceAdd,Nat.reduceSub,Nat.reduceMul,Nat.reduceEqDiff,Nat.reduceLeDiff,Nat.reduceLT,↓reduceIte,Int.reduceToNat,reduceCtorEq,Int.reduceLT,Int.reduceLE,Int.reduceGT,Int.reduceGE,Int.reduceEq,Int.reduceNe,Int.reduceNeg,Int.reduceAdd,Int.reduceSub,Nat.sub_zero,g3,g5,hA2,hA1]
      obtain ⟨B, hB⟩ : ∃ B, B = (l.map rp).take i ++ rp x :: A.drop (i + 1) := ⟨_, rfl⟩
      rw [← hB]
      have hB1 : B.take (i + 1) = (l.map rp).take i ++ [rp x] := by
        have hl : ((l.map rp).take i).length = i := by simp; omega
        rw [hB, List.take_append, hl, List.take_of_length_le (by rw [hl]; omega), show i + 1 - i = 1 by omega]
        rfl
      have hB2 : B.length = l.length + 1 := by rw [hB]; simp [hA2]; omega
      refine draw [.qu 0 0, .qu 0 0, .qu 0 0, .qu 0 0, .qu 0 0, .qu 0 0, .qu 0 0, .qu 0 0, .mn 0] (by kernel_rfl) (by kernel_rfl) ?_
      have g6 : (0 : Int) ≤ ((i + 1 : Nat) : Int) ∧ ((i + 1 : Nat) : Int) ≤ ((l.length + 1 : Nat) : Int) ∧ i + 1 ≤ l.length + 1 ∧ l.length - i ≤ l.length + 1 - (i + 1) ∧ (i : Int) ≤ (l.length : Int) := ⟨by omega, by omega, by omega, by omega, by omega⟩
      have e5 : ((l.map rp).drop i).take (l.length - i) = (l.drop i).map rp := by rw [← List.map_drop, List.take_of_length_le (by simp)]
      have e6 : ((l.drop i).map rp).length = l.length - i := by simp
      have e7 : B.drop (i + 1 + (l.length - i)) = [] := List.drop_of_length_le (by omega)
      simp only [go_sem,Nat.reduceAdd,Nat.reduceSub,Nat.reduceMul,Nat.reduceEqDiff,Nat.reduceLeDiff,Nat.reduceLT,↓reduceIte,Int.reduceToNat,reduceCtorEq,Int.reduceLT,Int.reduceLE,Int.reduceGT,Int.reduceGE,Int.reduceEq,Int.reduceNe,Int.reduceNeg,Int.reduceAdd,Int.reduceSub,Nat.sub_zero,e2,g3,g6,hB1,hB2,e5,e6,e7]
      refine .dead 0 (.dead 1 (.done ?_))
      rw [← hpost]
      refine ⟨rfl, ?_⟩
      simp
    · have g3 : (0 : Int) ≤ (i : Int) ∧ (i : Int) ≤ (c : Int) := ⟨by omega, by omega⟩
      have g4 : (0 : Int) ≤ ((l.length + 1 : Nat) : Int) ∧ ((l.length + 1 : Nat) : Int) ≤ (c : Int) ∧ (0 : Int) ≤ ((i + 1 : Nat) : Int) ∧ ((i + 1 : Nat) : Int) ≤ ((l.length + 1 : Nat) : Int) ∧ (i : Int) ≤ ((l.length + 1 : Nat) : Int) := ⟨by omega, by omega, by omega, by omega, by omega⟩
      simp only [go_sem,Nat.reduceAdd,Nat.reduceSub,Nat.reduceMul,Nat.reduceEqDiff,Nat.reduceLeDiff,Nat.reduceLT,↓reduceIte,Int.reduceToNat,reduceCtorEq,Int.reduceLT,Int.reduceLE,Int.reduceGT,Int.reduceGE,Int.reduceEq,Int.reduceNe,Int.reduceNeg,Int.reduceAdd,Int.reduceSub,Nat.sub_zero,e1,e2,e3,eq_false h3,eq_false h0,g3,g4,List.length_map,eq_true ovl_ok]
      refine draw [.qu 0 0, .qu 0 0, .qu 0 0, .qu 0 0, .qu 0 0, .qu 0 0, .qu 0 0, .qu 0 0, .mn 0] (by kernel_rfl) (by kernel_rfl) ?_
      have g5 : ¬ (l.length + 1 - i ≤ l.length + 1 - (i + 1)) := by omega
      have g6 : i + 1 ≤ l.length := by omega
      have e5 : ((l.map rp).drop i).take (l.length + 1 - (i + 1)) = (l.drop i).map rp := by rw [← List.map_drop, List.take_of_length_le (by simp)]
      have e6 : ((l.drop i).map rp).length = l.length + 1 - (i + 1) := by simp
      have e7 : (l.map rp).drop (i + 1 + (l.length + 1 - (i + 1))) = [] := List.drop_of_length_le (by simp; omega)
      simp only [go_sem,Nat.reduceAdd,Nat.reduceSub,Nat.reduceMul,Nat.reduceEqDiff,Nat.reduceLeDiff,Nat.reduceLT,↓reduceIte,Int.reduceToNat,reduceCtorEq,Int.reduceLT,Int.reduceLE,Int.reduceGT,Int.reduceGE,Int.reduceEq,Int.reduceNe,Int.reduceNeg,Int.reduceAdd,Int.reduceSub,Nat.sub_zero,e1,e2,g3,g4,g5,g6,e5,e6,e7,List.length_map]
      obtain ⟨R, hR⟩ : ∃ R, R = (l.map rp).take (i + 1) ++ (l.drop i).map rp := ⟨_, rfl⟩
      rw [← hR]
      have hR1 : R.take i = (l.map rp).take i := by rw [hR, List.take_append_of_le_length (by simp; omega), List.take_take, show min i (i + 1) = i by omega]
      have hR2 : R.length = l.length + 1 := by rw [hR]; simp; omega
      have hR3 : R.drop (i + 1) = (l.drop i).map rp := by
        have hl : ((l.map rp).take (i + 1)).length = i + 1 := by simp; omega
        rw [hR, List.drop_append, hl, List.drop_of_length_le (by rw [hl]; omega), Nat.sub_self]
        rfl
      have g7 : 1 ≤ l.length + 1 - i ∧ i ≤ l.length + 1 := ⟨by omega, by omega⟩
      simp only [go_sem,Nat.reduceAdd,Nat.reduceSub,Nat.reduceMul,Nat.reduceEqDiff,Nat.reduceLeDiff,Nat.reduceLT,↓reduceIte,Int.reduceToNat,reduceCtorEq,Int.reduceLT,Int.reduceLE,Int.reduceGT,Int.reduceGE,Int.reduceEq,Int.reduceNe,Int.reduceNeg,Int.reduceAdd,Int.reduceSub,Nat.sub_zero,e1,e2,g3,g4,g7,hR1,hR2,hR3]
      refine .le (.ret (.cap ..)) (LeH.refl _) (.mv (o' := .ret (.sl 2 0 (l.length + 1) none)) 0 (Nat.le_refl _) rfl rfl (.dead 1 (.done ?_)))
      rw [← hpost]
      refine ⟨rfl, ?_⟩
      simp
end Go.Proofs.YtfiflailjbmlpaaDoor
set_option maxRecDepth 100000
set_option linter.unusedVariables false
set_option linter.unusedSimpArgs false
namespace Go.Proofs.YtfiflailjbmlpaaDoor
open Go.AM
abbrev rfd (e : Int) : AV := .iface 109 (.agg [iv e])
theorem pmust_ok : ACalls Tryd.prog 37 [iv 0] [] (fun o H => o = .ret (.tuple []) ∧ H = []) := by
  refine ACalls.up ?_
  refine ACalls.intro (cs := []) (n := 7) Tryd.func37 rfl rfl rfl (by kernel_rfl) rfl ?_
  simp only [go_sem,Nat.reduceAdd,Nat.reduceSub,Nat.reduceMul,Nat.reduceEqDiff,Nat.reduceLeDiff,Nat.reduceLT,↓reduceIte,Int.reduceToNat,reduceCtorEq,Int.reduceLT,Int.reduceLE,Int.reduceGT,Int.reduceGE,Int.reduceEq,Int.reduceNe,Int.reduceNeg,Int.reduceAdd,Int.reduceSub]
  exact .done ⟨rfl, rfl⟩
theorem pmust_no (e : Int) (h : e ≠ 0) : ACalls Tryd.prog 37 [iv e] [] (fun o H => o = .pan (rfd e) ∧ H = []) := by
  refine ACalls.up ?_
  refine ACalls.intro (cs := []) (n := 7) Tryd.func37 rfl rfl rfl (by kernel_rfl) rfl ?_
  simp only [go_sem,Nat.reduceAdd,Nat.reduceSub,Nat.reduceMul,Nat.reduceEqDiff,Nat.reduceLeDiff,Nat.reduceLT,↓reduceIte,Int.reduceToNat,reduceCtorEq,Int.reduceLT,Int.reduceLE,Int.reduceGT,Int.reduceGE,Int.reduceEq,Int.reduceNe,Int.reduceNeg,Int.reduceAdd,Int.reduceSub,eq_false h]
  exact .done ⟨rfl, rfl⟩
theorem hK_app {P : Program} {ops : Array Oper} {rest : List Oper} {Q : XQ} {s : Ch} {H : Heap} : hK P ops rest Q s H = cops P ops rest Q s H := id rfl
theorem caught_res : Tryd.f28.results.toList = [ResultVar.cell 2 34] := rfl
theorem app_at {H : Heap} {n : Nat} (h : H.length = n) (x : Blk) : (H ++ [x])[n]? = some x := by subst h; simp
theorem app_set {H : Heap} {n : Nat} (h : H.length = n) (x y : Blk) : (H ++ [x]).set n y = H ++ [y] := by subst h; simp
theorem app2_a {H : Heap} {n : Nat} (h : H.length = n) (x y : Blk) : (H ++ [x, y])[n]? = some x := by subst h; simp
theorem app2_b {H : Heap} {n : Nat} (h : H.length = n) (x y : Blk) : (H ++ [x, y])[n + 1]? = some y := by subst h; simp
theorem app2_sa {H : Heap} {n : Nat} (h : H.length = n) (x y z : Blk) : (H ++ [x, y]).set n z = H ++ [z, y] := by subst h; simp
theorem app2_sb {H : Heap} {n : Nat} (h : H.length = n) (x y z : Blk) : (H ++ [x, y]).set (n + 1) z = H ++ [x, z] := by subst h; simp
section
variable {g : FuncId} {cap : List AV} {H H' : Heap}
theorem caught_ret (hE : Enters Tryd.prog g) (hc : ACalls Tryd.prog g cap H (fun o H2 => o = .ret (.tuple []) ∧ H2 = H')) (ha : ltL H.length cap = true) (h1 : ∀ b ∈ H, b.lt H.length) (h2 : ∀ b ∈ H', b.lt H.length) (hl : H'.length = H.length) :
    ACalls Tryd.prog 28 [.func (.func g) [] cap] H (fun o H2 => o = .ret (iv 0) ∧ H2 = H') := by
  refine ACalls.up ?_
  refine ACalls.introD (n := 6) Tryd.func28 rfl (by kernel_rfl) rfl ?_
  refine DWp.seq (by kernel_rfl) ?_
  generalize hpost : (fun (o : Out) (H2 : Heap) => o = Out.ret (iv 0) ∧ H2 = H') = post
  simp only [go_sem,Nat.reduceAdd,Nat.reduceSub,Nat.reduceMul,Nat.reduceEqDiff,Nat.reduceLeDiff,Nat.reduceLT,↓reduceIte,Int.reduceToNat,reduceCtorEq,Int.reduceLT,Int.reduceLE,Int.reduceGT,Int.reduceGE,Int.reduceEq,Int.reduceNe,Int.reduceNeg,Int.reduceAdd,Int.reduceSub,hK_app]
  refine DWp.defer (by kernel_rfl) rfl (by kernel_rfl) (by kernel_rfl) ?_
  simp only [go_sem,Nat.reduceAdd,Nat.reduceSub,Nat.reduceMul,Nat.reduceEqDiff,Nat.reduceLeDiff,Nat.reduceLT,↓reduceIte,Int.reduceToNat,reduceCtorEq,Int.reduceLT,Int.reduceLE,Int.reduceGT,Int.reduceGE,Int.reduceEq,Int.reduceNe,Int.reduceNeg,Int.reduceAdd,Int.reduceSub,hK_app,List.length_append]
  refine ⟨(enters_of Tryd.func54 rfl (by decide)), fun d => ?_⟩
  refine rK_use hE (hc.frame (R := [.rows 1 [[iv 0]]]) ha rfl h1 h2 hl) ?_
  simp only [go_sem,Nat.reduceAdd,Nat.reduceSub,Nat.reduceMul,Nat.reduceEqDiff,Nat.reduceLeDiff,Nat.reduceLT,↓reduceIte,Int.reduceToNat,reduceCtorEq,Int.reduceLT,Int.reduceLE,Int.reduceGT,Int.reduceGE,Int.reduceEq,Int.reduceNe,Int.reduceNeg,Int.reduceAdd,Int.reduceSub,hK_app,app_at hl,app_set hl]
  refine ADef.intro (n := 12) Tryd.func54 rfl rfl (by kernel_rfl) rfl (by kernel_rfl) ?_
  simp only [go_sem,Nat.reduceAdd,Nat.reduceSub,Nat.reduceMul,Nat.reduceEqDiff,Nat.reduceLeDiff,Nat.reduceLT,↓reduceIte,Int.reduceToNat,reduceCtorEq,Int.reduceLT,Int.reduceLE,Int.reduceGT,Int.reduceGE,Int.reduceEq,Int.reduceNe,Int.reduceNeg,Int.reduceAdd,Int.reduceSub,hK_app,app_at hl,app_set hl,caught_res]
  refine .gc H.length (Nat.le_refl _) (by simp; omega) rfl ?_ (.done ?_)
  · rw [← hl, List.take_left]
    rw [hl]; exact h2
  · rw [← hpost, ← hl, List.take_left]
    exact ⟨rfl, rfl⟩
theorem caught_pan (e : Int) (hE : Enters Tryd.prog g) (hc : ACalls Tryd.prog g cap H (fun o H2 => o = .pan (rfd e) ∧ H2 = H')) (ha : ltL H.length cap = true) (h1 : ∀ b ∈ H, b.lt H.length) (h2 : ∀ b ∈ H', b.lt H.length) (hl : H'.length = H.length) :
    ACalls Tryd.prog 28 [.func (.func g) [] cap] H (fun o H2 => o = .ret (iv e) ∧ H2 = H') := by
  refine ACalls.up ?_
  refine ACalls.introD (n := 6) Tryd.func28 rfl (by kernel_rfl) rfl ?_
  refine DWp.seq (by kernel_rfl) ?_
  generalize hpost : (fun (o : Out) (H2 : Heap) => o = Out.ret (iv e) ∧ H2 = H') = post
  simp only [go_sem,Nat.reduceAdd,Nat.reduceSub,Nat.reduceMul,Nat.reduceEqDiff,Nat.reduceLeDiff,Nat.reduceLT,↓reduceIte,Int.reduceToNat,reduceCtorEq,Int.reduceLT,Int.reduceLE,Int.reduceGT,Int.reduceGE,Int.reduceEq,Int.reduceNe,Int.reduceNeg,Int.reduceAdd,Int.reduceSub,hK_app]
  refine DWp.defer (by kernel_rfl) rfl (by kernel_rfl) (by kernel_rfl) ?_
  simp only [go_sem,Nat.reduceAdd,Nat.reduceSub,Nat.reduceMul,Nat.reduceEqDiff,Nat.reduceLeDiff,Nat.reduceLT,↓reduceIte,Int.reduceToNat,reduceCtorEq,Int.reduceLT,Int.reduceLE,Int.reduceGT,Int.reduceGE,Int.reduceEq,Int.reduceNe,Int.reduceNeg,Int.reduceAdd,Int.reduceSub,hK_app,List.length_append]
  refine ⟨(enters_of Tryd.func54 rfl (by decide)), fun d => ?_⟩
  refine rK_pans hE (hc.framep (R := [.rows 1 [[iv 0]]]) ha rfl h1 h2 hl) ?_
  simp only [go_sem,Nat.reduceAdd,Nat.reduceSub,Nat.reduceMul,Nat.reduceEqDiff,Nat.reduceLeDiff,Nat.reduceLT,↓reduceIte,Int.reduceToNat,reduceCtorEq,Int.reduceLT,Int.reduceLE,Int.reduceGT,Int.reduceGE,Int.reduceEq,Int.reduceNe,Int.reduceNeg,Int.reduceAdd,Int.reduceSub,hK_app,app_at hl,app_set hl]
  refine ADef.intro (n := 12) Tryd.func54 rfl rfl (by kernel_rfl) rfl (by kernel_rfl) ?_
  simp only [go_sem,Nat.reduceAdd,Nat.reduceSub,Nat.reduceMul,Nat.reduceEqDiff,Nat.reduceLeDiff,Nat.reduceLT,↓reduceIte,Int.reduceToNat,reduceCtorEq,Int.reduceLT,Int.reduceLE,Int.reduceGT,Int.reduceGE,Int.reduceEq,Int.reduceNe,Int.reduceNeg,Int.reduceAdd,Int.reduceSub,hK_app,app_at hl,app_set hl,app2_a hl,app2_b hl,app2_sa hl,app2_sb hl,List.length_append,hl,caught_res]
  refine .gc H.length (Nat.le_refl _) (by simp; omega) rfl ?_ (.done ?_)
  · rw [← hl, List.take_left]
    rw [hl]; exact h2
  · rw [← hpost, ← hl, List.take_left]
    exact ⟨rfl, rfl⟩
end
end Go.Proofs.YtfiflailjbmlpaaDoor
set_option maxRecDepth 100000
set_option linter.unusedVariables false
set_option linter.unusedSimpArgs false
namespace Go.Proofs.YtfiflailjbmlpaaDoor
open Go.AM
theorem find_l {l : List Pt} (hs : Srt l) (hl : l.length ≤ 1000000) (a : Int) (r : Nat) {H : Heap} (hH : H[r]? = some (.rows 3 (l.map rp))) :
    ACalls Tryd.prog 38 [.sl r 0 l.length none, iv a] H (fun o H2 => o = .ret (.tuple [iv (lb a l), .bool (fnd a l)]) ∧ H2 = H) := by
  have e : fzL r 3 (l.map rp) [.sl r 0 l.length none, iv a] = [.view false 3 (l.map rp), iv a] := by
    simp only [fzL, AV.fz, List.drop_zero, if_true]
    rw [List.take_of_length_le (by simp)]
  refine ACalls.lend r rfl hH (rp_pure l) (by simp [fzOkL, AV.fzOk]) (by rw [e]; rfl) ?_
  rw [e]
  exact find_c l hs hl a
theorem bren_rp (π : Nat → Nat) (l : List Pt) : Blk.ren π (.rows 3 (l.map rp)) = .rows 3 (l.map rp) := by
  rw [Blk.ren]
  congr 1
  rw [List.map_map]
  exact List.map_congr_left fun x _ => rfl
theorem cur_lt {p : Pd} {a : Int} {y : Pt} (h : p.cur a = some y) : lb a p.l < p.l.length := (List.getElem?_eq_some_iff.1 (Pd.cur_at h).1).1
theorem set_rp (l : List Pt) (i : Nat) (x : Pt) : (l.map rp).set i (rp x) = (l.set i x).map rp := by rw [List.map_set]
theorem up_pd {post : CQ} {H : Heap} {q : Pd} (r k : Nat) (nb nl : Nat) (xs ys : List (List AV)) (hrk : r ≠ k) (hr : H[r]? = some (.rows 1 xs)) (hk : H[k]? = some (.rows 3 ys)) (hx : xs.take nb = q.s.byt.map rb) (hy : ys.take nl = q.l.map rp) (hxl : nb ≤ xs.length) (hyl : nl ≤ ys.length)
    (hp : ∀ row ∈ xs, ltL 0 row = true) (hp2 : ∀ row ∈ ys, ltL 0 row = true) (h : post (.ret q.av) []) : Up 0 post (.ret (.agg [.view false 1 (q.s.perm.map r1), .sl r 0 nb none, .sl k 0 nl none])) H := by
  have hkr : ¬ k = r := fun h => hrk h.symm
  refine up_two r 1 xs k 3 ys hrk hr hk hp hp2 ?_ ?_ ?_ ?_
  · simp [Out.fzOk, AV.fzOk, fzOkL, hxl, hkr]
  · simp [Out.fzOk, Out.fz, AV.fz, fzL, AV.fzOk, fzOkL, hkr, hyl]
  · simp [Out.fz, AV.fz, fzL, Out.lt, AV.lt, ltL, hkr]
  · simp only [Out.fz, AV.fz, fzL, if_true, if_neg hkr, List.drop_zero, hx, hy]
    exact h
theorem install_ok (p : Pd) (h : p.ok) (a : Int) (ha : I64 a) (h0 : (p.inst a).2 = 0) : ACalls Tryd.prog 35 [p.av, iv a] [] (fun o H => o = .ret (p.inst a).1.av ∧ H = []) := by
  refine ACalls.up ?_
  refine ACalls.intro (cs := []) (n := 76) Tryd.func35 rfl rfl rfl (by kernel_rfl) rfl ?_
  generalize hpost : (fun (o : Out) (H : Heap) => o = Out.ret (p.inst a).1.av ∧ H = []) = post
  have hl := h.len
  have hbl := byt_len h.sok
  simp only [go_sem,Nat.reduceAdd,Nat.reduceSub,Nat.reduceMul,Nat.reduceEqDiff,Nat.reduceLeDiff,Nat.reduceLT,↓reduceIte,Int.reduceToNat,reduceCtorEq,Int.reduceLT,Int.reduceLE,Int.reduceGT,Int.reduceGE,Int.reduceEq,Int.reduceNe,Int.reduceNeg,Int.reduceAdd,Int.reduceSub,Pd.av]
  refine rK_use (enters_of Tryd.func20 rfl (by decide)) (ACalls.pure_use (pcheck_c p) rfl rfl) ?_
  rw [Pd.chk_ok h]
  simp only [go_sem,Nat.reduceAdd,Nat.reduceSub,Nat.reduceMul,Nat.reduceEqDiff,Nat.reduceLeDiff,Nat.reduceLT,↓reduceIte,Int.reduceToNat,reduceCtorEq,Int.reduceLT,Int.reduceLE,Int.reduceGT,Int.reduceGE,Int.reduceEq,Int.reduceNe,Int.reduceNeg,Int.reduceAdd,Int.reduceSub]
  refine rK_use (enters_of Tryd.func37 rfl (by decide)) (ACalls.pure_use (pmust_ok) rfl rfl) ?_
  simp only [go_sem,Nat.reduceAdd,Nat.reduceSub,Nat.reduceMul,Nat.reduceEqDiff,Nat.reduceLeDiff,Nat.reduceLT,↓reduceIte,Int.reduceToNat,reduceCtorEq,Int.reduceLT,Int.reduceLE,Int.reduceGT,Int.reduceGE,Int.reduceEq,Int.reduceNe,Int.reduceNeg,Int.reduceAdd,Int.reduceSub]
  refine rK_use (enters_of Tryd.func39 rfl (by decide)) (pcopied_u p h.fit _) ?_
  simp only [go_sem,Nat.reduceAdd,Nat.reduceSub,Nat.reduceMul,Nat.reduceEqDiff,Nat.reduceLeDiff,Nat.reduceLT,↓reduceIte,Int.reduceToNat,reduceCtorEq,Int.reduceLT,Int.reduceLE,Int.reduceGT,Int.reduceGE,Int.reduceEq,Int.reduceNe,Int.reduceNeg,Int.reduceAdd,Int.reduceSub]
  refine rK_use (enters_of Tryd.func38 rfl (by decide)) (find_l h.sor (by omega) a 3 rfl) ?_
  rw [fnd_cur]
  unfold Pd.inst at h0 hpost
  cases hc : p.cur a with
  | some y =>
    rw [hc] at h0 hpost
    simp only at h0 hpost
    have hlb := cur_lt hc
    obtain ⟨hy, hya⟩ := Pd.cur_at hc
    have hf := h.fits y (List.mem_of_getElem? hy)
    have hn1 := hf.n1
    have hn2 := hf.n2
    by_cases hn : y.n = 1000
    · rw [if_pos hn] at h0; cases h0
    rw [if_neg hn] at hpost
    have g1 : (0 : Int) ≤ (lb a p.l : Int) ∧ (lb a p.l : Int) < (p.l.length : Int) := ⟨by omega, by omega⟩
    have e1 : iw .i64 (y.n + 1) = y.n + 1 := by rw [iw64] <;> omega
    simp only [go_sem,Nat.reduceAdd,Nat.reduceSub,Nat.reduceMul,Nat.reduceEqDiff,Nat.reduceLeDiff,Nat.reduceLT,↓reduceIte,Int.reduceToNat,reduceCtorEq,Int.reduceLT,Int.reduceLE,Int.reduceGT,Int.reduceGE,Int.reduceEq,Int.reduceNe,Int.reduceNeg,Int.reduceAdd,Int.reduceSub,Option.isSome_some,g1,hy,List.length_map,List.getElem?_map,eq_false hn,e1,hlb]
    refine up_pd (q := ⟨p.s, p.l.set (lb a p.l) ⟨y.at_, y.old, y.n + 1⟩⟩) 2 3 p.s.byt.length p.l.length _ _ (by decide) rfl rfl (List.take_of_length_le (by simp)) ?_ (by simp) (by simp) (rb_lt0 _) ?_ ?_
    · rw [set_rp _ _ ⟨y.at_, y.old, y.n + 1⟩, List.take_of_length_le (by simp)]
    · rw [set_rp _ _ ⟨y.at_, y.old, y.n + 1⟩]
      exact rp_lt0 _
    · rw [← hpost]
      exact ⟨rfl, rfl⟩
  | none =>
    rw [hc] at h0 hpost
    simp only at h0 hpost
    simp only [go_sem,Nat.reduceAdd,Nat.reduceSub,Nat.reduceMul,Nat.reduceEqDiff,Nat.reduceLeDiff,Nat.reduceLT,↓reduceIte,Int.reduceToNat,reduceCtorEq,Int.reduceLT,Int.reduceLE,Int.reduceGT,Int.reduceGE,Int.reduceEq,Int.reduceNe,Int.reduceNeg,Int.reduceAdd,Int.reduceSub,Option.isSome_none]
    refine rK_use (enters_of Tryd.func46 rfl (by decide)) (ACalls.pure_use (standing_c p.s h.sok a) rfl (by simp [sitC, Ins.cells, AV.lt, ltL])) ?_
    by_cases hst : (stand p.s a).e = 0
    rotate_left
    · rw [if_neg hst] at h0; cases h0
    rw [if_pos hst] at h0 hpost
    by_cases hn : p.l.length = 64
    · rw [if_pos hn] at h0; cases h0
    rw [if_neg hn] at hpost
    have hn' : ¬ (p.l.length : Int) = 64 := by omega
    obtain ⟨b0, b1, _, d, _, _, hd⟩ := stand_at ha (by rw [hst]; decide)
    rw [hd, Option.getD_some] at hpost
    have g2 : (0 : Int) ≤ a ∧ a < (p.s.byt.length : Int) := ⟨b0, b1⟩
    have g3 : a.toNat < p.s.byt.length := by omega
    simp only [go_sem,Nat.reduceAdd,Nat.reduceSub,Nat.reduceMul,Nat.reduceEqDiff,Nat.reduceLeDiff,Nat.reduceLT,↓reduceIte,Int.reduceToNat,reduceCtorEq,Int.reduceLT,Int.reduceLE,Int.reduceGT,Int.reduceGE,Int.reduceEq,Int.reduceNe,Int.reduceNeg,Int.reduceAdd,Int.reduceSub,decide_eq_true hst,sitC,Ins.cells,eq_false hn']
    refine draw [.qu 0 1, .rd 0 1, .qu 0 1, .qu 0 0, .qu 0 0, .qu 0 0, .qu 0 0, .qu 0 0, .qu 0 0, .qu 0 0, .qu 0 0, .mn 0, .mn 1, .qu 2 2, .mn 2] (by kernel_rfl) (by kernel_rfl) ?_
    simp only [go_sem,Nat.reduceAdd,Nat.reduceSub,Nat.reduceMul,Nat.reduceEqDiff,Nat.reduceLeDiff,Nat.reduceLT,↓reduceIte,Int.reduceToNat,reduceCtorEq,Int.reduceLT,Int.reduceLE,Int.reduceGT,Int.reduceGE,Int.reduceEq,Int.reduceNe,Int.reduceNeg,Int.reduceAdd,Int.reduceSub,g2,hd,List.length_map,List.getElem?_map]
    have hins : insL a ⟨a, d, 1⟩ p.l = p.l.take (lb a p.l) ++ ⟨a, d, 1⟩ :: p.l.drop (lb a p.l) := rfl
    refine dM_call (enters_of Tryd.func60 rfl (by decide)) ((insert_c p.l (lb a p.l) (lb_le a p.l) (by omega) ⟨a, d, 1⟩).useE [3, 6] (.sl 7 0 (p.l.length + 1) none) [.rows 3 [[.view false 1 (p.s.perm.map r1), .view false 1 (p.s.byt.map rb), .view false 3 (p.l.map rp)]], .rows 3 [[.view true 0 [], .view true 0 [], .view true 0 []]], .rows 1 (p.s.byt.map rb), .dead, .rows 3 [[.view false 1 (p.s.perm.map r1), .sl 2 0 p.s.byt.length none, .sl 3 0 p.l.length none]],
      .rows 5 [[iv (stand p.s a).x.op, iv (stand p.s a).x.a, iv (stand p.s a).x.b, iv (stand p.s a).x.imm, iv (stand p.s a).n]], .dead, .rows 3 ((insL a ⟨a, d, 1⟩ p.l).map rp)] (by simp) rfl (by simp) ?_ rfl rfl ?_) ?_
    · simp only [List.map_cons, List.map_nil, bren_rp, List.getElem?_cons_succ, List.getElem?_cons_zero]
      rfl
    · simp only [patch, setMany, List.length_cons, List.length_nil, List.drop_succ_cons, List.drop_zero, List.map_cons, List.map_nil, bren_rp, hins]
      rfl
    obtain ⟨z, hz⟩ := at_lt (l := p.s.byt.map rb) (i := a.toNat) (by simpa using g3)
    have eset : (p.s.byt.map rb).set a.toNat [.int .u8 204] = (p.s.put a.toNat 204).byt.map rb := by rw [Sp.put, List.map_set]; rfl
    simp only [go_sem,Nat.reduceAdd,Nat.reduceSub,Nat.reduceMul,Nat.reduceEqDiff,Nat.reduceLeDiff,Nat.reduceLT,↓reduceIte,Int.reduceToNat,reduceCtorEq,Int.reduceLT,Int.reduceLE,Int.reduceGT,Int.reduceGE,Int.reduceEq,Int.reduceNe,Int.reduceNeg,Int.reduceAdd,Int.reduceSub,g2,g3,hd,List.length_map,List.getElem?_map,eset]
    refine up_pd (q := ⟨p.s.put a.toNat 204, insL a ⟨a, d, 1⟩ p.l⟩) 2 7 p.s.byt.length (p.l.length + 1) _ _ (by decide) rfl rfl (List.take_of_length_le (by simp [Sp.put])) (List.take_of_length_le (by simp [ins_len])) (by simp [Sp.put]) (by simp [ins_len]) (rb_lt0 _) (rp_lt0 _) ?_
    rw [← hpost]
    exact ⟨rfl, rfl⟩
theorem install_no (p : Pd) (h : p.ok) (a : Int) (h0 : (p.inst a).2 ≠ 0) : ACalls Tryd.prog 35 [p.av, iv a] [] (fun o H => o = .pan (rfd (p.inst a).2) ∧ H = []) := by
  refine ACalls.up ?_
  refine ACalls.intro (cs := []) (n := 76) Tryd.func35 rfl rfl rfl (by kernel_rfl) rfl ?_
  generalize hpost : (fun (o : Out) (H : Heap) => o = Out.pan (rfd (p.inst a).2) ∧ H = []) = post
  have fin : ∀ n H, n = (p.inst a).2 → Up 0 post (.pan (rfd n)) H := fun n H h => finp rfl (by rw [← hpost, ← h]; exact ⟨rfl, rfl⟩) H
  have hl := h.len
  simp only [go_sem,Nat.reduceAdd,Nat.reduceSub,Nat.reduceMul,Nat.reduceEqDiff,Nat.reduceLeDiff,Nat.reduceLT,↓reduceIte,Int.reduceToNat,reduceCtorEq,Int.reduceLT,Int.reduceLE,Int.reduceGT,Int.reduceGE,Int.reduceEq,Int.reduceNe,Int.reduceNeg,Int.reduceAdd,Int.reduceSub,Pd.av]
  refine rK_use (enters_of Tryd.func20 rfl (by decide)) (ACalls.pure_use (pcheck_c p) rfl rfl) ?_
  rw [Pd.chk_ok h]
  simp only [go_sem,Nat.reduceAdd,Nat.reduceSub,Nat.reduceMul,Nat.reduceEqDiff,Nat.reduceLeDiff,Nat.reduceLT,↓reduceIte,Int.reduceToNat,reduceCtorEq,Int.reduceLT,Int.reduceLE,Int.reduceGT,Int.reduceGE,Int.reduceEq,Int.reduceNe,Int.reduceNeg,Int.reduceAdd,Int.reduceSub]
  refine rK_use (enters_of Tryd.func37 rfl (by decide)) (ACalls.pure_use (pmust_ok) rfl rfl) ?_
  simp only [go_sem,Nat.reduceAdd,Nat.reduceSub,Nat.reduceMul,Nat.reduceEqDiff,Nat.reduceLeDiff,Nat.reduceLT,↓reduceIte,Int.reduceToNat,reduceCtorEq,Int.reduceLT,Int.reduceLE,Int.reduceGT,Int.reduceGE,Int.reduceEq,Int.reduceNe,Int.reduceNeg,Int.reduceAdd,Int.reduceSub]
  refine rK_use (enters_of Tryd.func39 rfl (by decide)) (pcopied_u p h.fit _) ?_
  simp only [go_sem,Nat.reduceAdd,Nat.reduceSub,Nat.reduceMul,Nat.reduceEqDiff,Nat.reduceLeDiff,Nat.reduceLT,↓reduceIte,Int.reduceToNat,reduceCtorEq,Int.reduceLT,Int.reduceLE,Int.reduceGT,Int.reduceGE,Int.reduceEq,Int.reduceNe,Int.reduceNeg,Int.reduceAdd,Int.reduceSub]
  refine rK_use (enters_of Tryd.func38 rfl (by decide)) (find_l h.sor (by omega) a 3 rfl) ?_
  rw [fnd_cur]
  unfold Pd.inst at h0 fin
  cases hc : p.cur a with
  | some y =>
    rw [hc] at h0 fin
    simp only at h0 fin
    have hlb := cur_lt hc
    obtain ⟨hy, hya⟩ := Pd.cur_at hc
    have g1 : (0 : Int) ≤ (lb a p.l : Int) ∧ (lb a p.l : Int) < (p.l.length : Int) := ⟨by omega, by omega⟩
    by_cases hn : y.n = 1000
    rotate_left
    · rw [if_neg hn] at h0; exact absurd rfl h0
    rw [if_pos hn] at fin
    simp only [go_sem,Nat.reduceAdd,Nat.reduceSub,Nat.reduceMul,Nat.reduceEqDiff,Nat.reduceLeDiff,Nat.reduceLT,↓reduceIte,Int.reduceToNat,reduceCtorEq,Int.reduceLT,Int.reduceLE,Int.reduceGT,Int.reduceGE,Int.reduceEq,Int.reduceNe,Int.reduceNeg,Int.reduceAdd,Int.reduceSub,Option.isSome_some,g1,hy,List.length_map,List.getElem?_map,eq_true hn,hlb]
    refine rK_pans (enters_of Tryd.func37 rfl (by decide)) (ACalls.pure_pan (pmust_no 2 (by decide)) rfl rfl) ?_
    simp only [go_sem,Nat.reduceAdd,Nat.reduceSub,Nat.reduceMul,Nat.reduceEqDiff,Nat.reduceLeDiff,Nat.reduceLT,↓reduceIte,Int.reduceToNat,reduceCtorEq,Int.reduceLT,Int.reduceLE,Int.reduceGT,Int.reduceGE,Int.reduceEq,Int.reduceNe,Int.reduceNeg,Int.reduceAdd,Int.reduceSub]
    exact fin 2 _ rfl
  | none =>
    rw [hc] at h0 fin
    simp only at h0 fin
    simp only [go_sem,Nat.reduceAdd,Nat.reduceSub,Nat.reduceMul,Nat.reduceEqDiff,Nat.reduceLeDiff,Nat.reduceLT,↓reduceIte,Int.reduceToNat,reduceCtorEq,Int.reduceLT,Int.reduceLE,Int.reduceGT,Int.reduceGE,Int.reduceEq,Int.reduceNe,Int.reduceNeg,Int.reduceAdd,Int.reduceSub,Option.isSome_none]
    refine rK_use (enters_of Tryd.func46 rfl (by decide)) (ACalls.pure_use (standing_c p.s h.sok a) rfl (by simp [sitC, Ins.cells, AV.lt, ltL])) ?_
    by_cases hst : (stand p.s a).e = 0
    · rw [if_pos hst] at h0 fin
      by_cases hn : p.l.length = 64
      rotate_left
      · rw [if_neg hn] at h0; exact absurd rfl h0
      rw [if_pos hn] at fin
      have hn' : (p.l.length : Int) = 64 := by omega
      simp only [go_sem,Nat.reduceAdd,Nat.reduceSub,Nat.reduceMul,Nat.reduceEqDiff,Nat.reduceLeDiff,Nat.reduceLT,↓reduceIte,Int.reduceToNat,reduceCtorEq,Int.reduceLT,Int.reduceLE,Int.reduceGT,Int.reduceGE,Int.reduceEq,Int.reduceNe,Int.reduceNeg,Int.reduceAdd,Int.reduceSub,decide_eq_true hst,sitC,Ins.cells,eq_true hn']
      refine rK_pans (enters_of Tryd.func37 rfl (by decide)) (ACalls.pure_pan (pmust_no 2 (by decide)) rfl rfl) ?_
      simp only [go_sem,Nat.reduceAdd,Nat.reduceSub,Nat.reduceMul,Nat.reduceEqDiff,Nat.reduceLeDiff,Nat.reduceLT,↓reduceIte,Int.reduceToNat,reduceCtorEq,Int.reduceLT,Int.reduceLE,Int.reduceGT,Int.reduceGE,Int.reduceEq,Int.reduceNe,Int.reduceNeg,Int.reduceAdd,Int.reduceSub]
      exact fin 2 _ rfl
    · rw [if_neg hst] at fin
      simp only [go_sem,Nat.reduceAdd,Nat.reduceSub,Nat.reduceMul,Nat.reduceEqDiff,Nat.reduceLeDiff,Nat.reduceLT,↓reduceIte,Int.reduceToNat,reduceCtorEq,Int.reduceLT,Int.reduceLE,Int.reduceGT,Int.reduceGE,Int.reduceEq,Int.reduceNe,Int.reduceNeg,Int.reduceAdd,Int.reduceSub,decide_eq_false hst,sitC,Ins.cells]
      refine rK_pans (enters_of Tryd.func37 rfl (by decide)) (ACalls.pure_pan (pmust_no 71 (by decide)) rfl rfl) ?_
      simp only [go_sem,Nat.reduceAdd,Nat.reduceSub,Nat.reduceMul,Nat.reduceEqDiff,Nat.reduceLeDiff,Nat.reduceLT,↓reduceIte,Int.reduceToNat,reduceCtorEq,Int.reduceLT,Int.reduceLE,Int.reduceGT,Int.reduceGE,Int.reduceEq,Int.reduceNe,Int.reduceNeg,Int.reduceAdd,Int.reduceSub]
      exact fin 71 _ rfl
theorem install_n (p : Pd) (h : ¬ p.ok) (a : Int) : ACalls Tryd.prog 35 [p.av, iv a] [] (fun o H => o = .pan (rfd 70) ∧ H = []) := by
  refine ACalls.up ?_
  refine ACalls.intro (cs := []) (n := 76) Tryd.func35 rfl rfl rfl (by kernel_rfl) rfl ?_
  simp only [go_sem,Nat.reduceAdd,Nat.reduceSub,Nat.reduceMul,Nat.reduceEqDiff,Nat.reduceLeDiff,Nat.reduceLT,↓reduceIte,Int.reduceToNat,reduceCtorEq,Int.reduceLT,Int.reduceLE,Int.reduceGT,Int.reduceGE,Int.reduceEq,Int.reduceNe,Int.reduceNeg,Int.reduceAdd,Int.reduceSub,Pd.av]
  refine rK_use (enters_of Tryd.func20 rfl (by decide)) (ACalls.pure_use (pcheck_c p) rfl rfl) ?_
  rw [Pd.chk_no h]
  simp only [go_sem,Nat.reduceAdd,Nat.reduceSub,Nat.reduceMul,Nat.reduceEqDiff,Nat.reduceLeDiff,Nat.reduceLT,↓reduceIte,Int.reduceToNat,reduceCtorEq,Int.reduceLT,Int.reduceLE,Int.reduceGT,Int.reduceGE,Int.reduceEq,Int.reduceNe,Int.reduceNeg,Int.reduceAdd,Int.reduceSub]
  refine rK_pans (enters_of Tryd.func37 rfl (by decide)) (ACalls.pure_pan (pmust_no 70 (by decide)) rfl rfl) ?_
  simp only [go_sem,Nat.reduceAdd,Nat.reduceSub,Nat.reduceMul,Nat.reduceEqDiff,Nat.reduceLeDiff,Nat.reduceLT,↓reduceIte,Int.reduceToNat,reduceCtorEq,Int.reduceLT,Int.reduceLE,Int.reduceGT,Int.reduceGE,Int.reduceEq,Int.reduceNe,Int.reduceNeg,Int.reduceAdd,Int.reduceSub]
  exact finp rfl ⟨rfl, rfl⟩ _
open Classical in
noncomputable def Pd.instA (p : Pd) (a : Int) : Pd × Int := if p.ok then p.inst a else (p0, 70)
theorem install_pan (p : Pd) (a : Int) (h0 : (p.instA a).2 ≠ 0) : ACalls Tryd.prog 35 [p.av, iv a] [] (fun o H => o = .pan (rfd (p.instA a).2) ∧ H = []) := by
  unfold Pd.instA at h0 ⊢
  by_cases h : p.ok
  · rw [if_pos h] at h0 ⊢
    exact install_no p h a h0
  · rw [if_neg h]
    exact install_n p h a
def Pd.cells (p : Pd) : List AV := [.view false 1 (p.s.perm.map r1), .view false 1 (p.s.byt.map rb), .view false 3 (p.l.map rp)]
def pdN : List AV := [.view true 0 [], .view true 0 [], .view true 0 []]
theorem pdN_le : LeV (.agg pdN) p0.av := .agg (.cons (.nil true false 0 1 (by simp)) (.cons (.nil true false 0 1 (by simp)) (.cons (.nil true false 0 3 (by simp)) .nil)))
theorem inst_p0 (p : Pd) (a : Int) (h0 : (p.instA a).2 ≠ 0) : (p.instA a).1 = p0 := by
  unfold Pd.instA Pd.inst at h0 ⊢
  repeat' split
  all_goals first | rfl | skip
  all_goals simp_all
theorem Install_c (p : Pd) (a : Int) (ha : I64 a) : ACalls Tryd.prog 16 [p.av, iv a] [] (fun o H => o = .ret (.tuple [(p.instA a).1.av, iv (p.instA a).2]) ∧ H = []) := by
  refine ACalls.up ?_
  refine ACalls.intro (cs := []) (n := 14) Tryd.func16 rfl rfl rfl (by kernel_rfl) rfl ?_
  generalize hpost : (fun (o : Out) (H : Heap) => o = Out.ret (.tuple [(p.instA a).1.av, iv (p.instA a).2]) ∧ H = []) = post
  simp only [go_sem,Nat.reduceAdd,Nat.reduceSub,Nat.reduceMul,Nat.reduceEqDiff,Nat.reduceLeDiff,Nat.reduceLT,↓reduceIte,Int.reduceToNat,reduceCtorEq,Int.reduceLT,Int.reduceLE,Int.reduceGT,Int.reduceGE,Int.reduceEq,Int.reduceNe,Int.reduceNeg,Int.reduceAdd,Int.reduceSub,Pd.av]
  by_cases h0 : (p.instA a).2 = 0
  · have hp : p.ok := Classical.byContradiction fun h => by rw [Pd.instA, if_neg h] at h0; cases h0
    have hcl : ACalls Tryd.prog 34 [.ptr 0 0 0, .ptr 1 0 0, .ptr 2 0 0] [.rows 3 [p.cells], .rows 1 [[iv a]], .rows 3 [pdN]] (fun o H => o = .ret (.tuple []) ∧ H = [.rows 3 [p.cells], .rows 1 [[iv a]], .rows 3 [(p.instA a).1.cells]]) := by
      refine ACalls.up ?_
      refine ACalls.intro (cs := []) (n := 6) Tryd.func34 rfl rfl rfl (by kernel_rfl) rfl ?_
      simp only [go_sem,Nat.reduceAdd,Nat.reduceSub,Nat.reduceMul,Nat.reduceEqDiff,Nat.reduceLeDiff,Nat.reduceLT,↓reduceIte,Int.reduceToNat,reduceCtorEq,Int.reduceLT,Int.reduceLE,Int.reduceGT,Int.reduceGE,Int.reduceEq,Int.reduceNe,Int.reduceNeg,Int.reduceAdd,Int.reduceSub,Pd.cells,pdN]
      have e : p.instA a = p.inst a := if_pos hp
      rw [e] at h0 ⊢
      refine rK_use (enters_of Tryd.func35 rfl (by decide)) (ACalls.pure_use (install_ok p hp a ha h0) rfl rfl) ?_
      simp only [go_sem,Nat.reduceAdd,Nat.reduceSub,Nat.reduceMul,Nat.reduceEqDiff,Nat.reduceLeDiff,Nat.reduceLT,↓reduceIte,Int.reduceToNat,reduceCtorEq,Int.reduceLT,Int.reduceLE,Int.reduceGT,Int.reduceGE,Int.reduceEq,Int.reduceNe,Int.reduceNeg,Int.reduceAdd,Int.reduceSub,Pd.av]
      exact .done ⟨rfl, rfl⟩
    refine rK_use (enters_of Tryd.func28 rfl (by decide)) (caught_ret (enters_of Tryd.func34 rfl (by decide)) hcl rfl (by simp [Blk.lt, ltL, AV.lt, Pd.cells, pdN]) (by simp [Blk.lt, ltL, AV.lt, Pd.cells]) rfl) ?_
    simp only [go_sem,Nat.reduceAdd,Nat.reduceSub,Nat.reduceMul,Nat.reduceEqDiff,Nat.reduceLeDiff,Nat.reduceLT,↓reduceIte,Int.reduceToNat,reduceCtorEq,Int.reduceLT,Int.reduceLE,Int.reduceGT,Int.reduceGE,Int.reduceEq,Int.reduceNe,Int.reduceNeg,Int.reduceAdd,Int.reduceSub,Pd.cells]
    refine finv rfl ?_ _
    rw [← hpost, h0]
    exact ⟨rfl, rfl⟩
  · have hcl : ACalls Tryd.prog 34 [.ptr 0 0 0, .ptr 1 0 0, .ptr 2 0 0] [.rows 3 [p.cells], .rows 1 [[iv a]], .rows 3 [pdN]] (fun o H => o = .pan (rfd (p.instA a).2) ∧ H = [.rows 3 [p.cells], .rows 1 [[iv a]], .rows 3 [pdN]]) := by
      refine ACalls.up ?_
      refine ACalls.intro (cs := []) (n := 6) Tryd.func34 rfl rfl rfl (by kernel_rfl) rfl ?_
      simp only [go_sem,Nat.reduceAdd,Nat.reduceSub,Nat.reduceMul,Nat.reduceEqDiff,Nat.reduceLeDiff,Nat.reduceLT,↓reduceIte,Int.reduceToNat,reduceCtorEq,Int.reduceLT,Int.reduceLE,Int.reduceGT,Int.reduceGE,Int.reduceEq,Int.reduceNe,Int.reduceNeg,Int.reduceAdd,Int.reduceSub,Pd.cells,pdN]
      refine rK_pans (enters_of Tryd.func35 rfl (by decide)) (ACalls.pure_pan (install_pan p a h0) rfl rfl) ?_
      simp only [go_sem,Nat.reduceAdd,Nat.reduceSub,Nat.reduceMul,Nat.reduceEqDiff,Nat.reduceLeDiff,Nat.reduceLT,↓reduceIte,Int.reduceToNat,reduceCtorEq,Int.reduceLT,Int.reduceLE,Int.reduceGT,Int.reduceGE,Int.reduceEq,Int.reduceNe,Int.reduceNeg,Int.reduceAdd,Int.reduceSub]
      exact .done ⟨rfl, rfl⟩
    refine rK_use (enters_of Tryd.func28 rfl (by decide)) (caught_pan (p.instA a).2 (enters_of Tryd.func34 rfl (by decide)) hcl rfl (by simp [Blk.lt, ltL, AV.lt, Pd.cells, pdN]) (by simp [Blk.lt, ltL, AV.lt, Pd.cells, pdN]) rfl) ?_
    simp only [go_sem,Nat.reduceAdd,Nat.reduceSub,Nat.reduceMul,Nat.reduceEqDiff,Nat.reduceLeDiff,Nat.reduceLT,↓reduceIte,Int.reduceToNat,reduceCtorEq,Int.reduceLT,Int.reduceLE,Int.reduceGT,Int.reduceGE,Int.reduceEq,Int.reduceNe,Int.reduceNeg,Int.reduceAdd,Int.reduceSub,Pd.cells,pdN,eq_false h0]
    refine .le (.ret (.tuple (.cons pdN_le (.cons (.refl _) .nil)))) (LeH.refl _) (finv rfl ?_ _)
    rw [← hpost, inst_p0 p a h0]
    exact ⟨rfl, rfl⟩
end Go.Proofs.YtfiflailjbmlpaaDoor
set_option maxRecDepth 100000
set_option linter.unusedVariables false
set_option linter.unusedSimpArgs false
namespace Go.Proofs.YtfiflailjbmlpaaDoor
open Go.AM
theorem up_cell {post : CQ} {p q : Pd} {a : Int} (nb nl : Nat) (xs ys : List (List AV)) (hx : xs.take nb = q.s.byt.map rb) (hy : ys.take nl = q.l.map rp) (hxl : nb ≤ xs.length) (hyl : nl ≤ ys.length)
    (hp : ∀ row ∈ xs, ltL 0 row = true) (hp2 : ∀ row ∈ ys, ltL 0 row = true) (h : post (.ret (.tuple [])) [.rows 3 [p.cells], .rows 1 [[iv a]], .rows 3 [q.cells]]) :
    Up 3 post (.ret (.tuple [])) [.rows 3 [p.cells], .rows 1 [[iv a]], .rows 3 [[.view false 1 (q.s.perm.map r1), .sl 3 0 nb none, .sl 4 0 nl none]], .rows 1 xs, .rows 3 ys] := by
  refine .fz 3 1 xs rfl (fun row hr x hx => ltL_mem (hp row hr) x hx) trivial ?_ ?_
  · simp only [List.set_cons_zero, List.set_cons_succ, List.forall_mem_cons]
    refine ⟨by simp [Blk.fzOk, fzOkL, AV.fzOk, Pd.cells], by simp [Blk.fzOk, fzOkL, AV.fzOk], by simp [Blk.fzOk, fzOkL, AV.fzOk, hxl], trivial, bfzOk_pure hp2, by simp⟩
  simp only [List.set_cons_zero, List.set_cons_succ, List.map_cons, List.map_nil, bfz_pure hp2]
  refine .fz 4 3 ys rfl (fun row hr x hx => ltL_mem (hp2 row hr) x hx) trivial ?_ ?_
  · simp only [List.set_cons_zero, List.set_cons_succ, List.forall_mem_cons]
    refine ⟨by simp [Blk.fz, fzL, AV.fz, Blk.fzOk, fzOkL, AV.fzOk, Pd.cells], by simp [Blk.fz, fzL, AV.fz, Blk.fzOk, fzOkL, AV.fzOk], by simp [Blk.fz, fzL, AV.fz, Blk.fzOk, fzOkL, AV.fzOk, hyl], trivial, trivial, by simp⟩
  simp only [Pd.cells, List.set_cons_zero, List.set_cons_succ, List.map_cons, List.map_nil, Blk.fz, fzL, AV.fz, Out.fz, if_true, if_false, Nat.reduceEqDiff, reduceIte, List.drop_zero, hx, hy]
  refine .gc 3 (Nat.le_refl _) (by simp) rfl (by simp [Blk.lt, ltL, AV.lt, Pd.cells]) (.done ?_)
  exact h
theorem remove1_ok (p : Pd) (h : p.ok) (a : Int) (h0 : (p.rem a).2 = 0) : ACalls Tryd.prog 36 [.ptr 0 0 0, .ptr 1 0 0, .ptr 2 0 0] [.rows 3 [p.cells], .rows 1 [[iv a]], .rows 3 [pdN]] (fun o H => o = .ret (.tuple []) ∧ H = [.rows 3 [p.cells], .rows 1 [[iv a]], .rows 3 [(p.rem a).1.cells]]) := by
  refine ACalls.up ?_
  refine ACalls.intro (cs := []) (n := 54) Tryd.func36 rfl rfl rfl (by kernel_rfl) rfl ?_
  generalize hpost : (fun (o : Out) (H : Heap) => o = Out.ret (.tuple []) ∧ H = [.rows 3 [p.cells], .rows 1 [[iv a]], .rows 3 [(p.rem a).1.cells]]) = post
  have hl := h.len
  have hbl := byt_len h.sok
  simp only [go_sem,Nat.reduceAdd,Nat.reduceSub,Nat.reduceMul,Nat.reduceEqDiff,Nat.reduceLeDiff,Nat.reduceLT,↓reduceIte,Int.reduceToNat,reduceCtorEq,Int.reduceLT,Int.reduceLE,Int.reduceGT,Int.reduceGE,Int.reduceEq,Int.reduceNe,Int.reduceNeg,Int.reduceAdd,Int.reduceSub,Pd.cells,pdN]
  refine rK_use (enters_of Tryd.func20 rfl (by decide)) (ACalls.pure_use (pcheck_c p) rfl rfl) ?_
  rw [Pd.chk_ok h]
  simp only [go_sem,Nat.reduceAdd,Nat.reduceSub,Nat.reduceMul,Nat.reduceEqDiff,Nat.reduceLeDiff,Nat.reduceLT,↓reduceIte,Int.reduceToNat,reduceCtorEq,Int.reduceLT,Int.reduceLE,Int.reduceGT,Int.reduceGE,Int.reduceEq,Int.reduceNe,Int.reduceNeg,Int.reduceAdd,Int.reduceSub]
  refine rK_use (enters_of Tryd.func37 rfl (by decide)) (ACalls.pure_use (pmust_ok) rfl rfl) ?_
  simp only [go_sem,Nat.reduceAdd,Nat.reduceSub,Nat.reduceMul,Nat.reduceEqDiff,Nat.reduceLeDiff,Nat.reduceLT,↓reduceIte,Int.reduceToNat,reduceCtorEq,Int.reduceLT,Int.reduceLE,Int.reduceGT,Int.reduceGE,Int.reduceEq,Int.reduceNe,Int.reduceNeg,Int.reduceAdd,Int.reduceSub]
  refine rK_use (enters_of Tryd.func38 rfl (by decide)) (ACalls.pure_use (find_c p.l h.sor (by omega) a) rfl rfl) ?_
  rw [fnd_cur]
  unfold Pd.rem at h0 hpost
  cases hc : p.cur a with
  | none => rw [hc] at h0; cases h0
  | some y =>
    rw [hc] at h0 hpost
    simp only at h0 hpost
    have hlb := cur_lt hc
    obtain ⟨hy, hya⟩ := Pd.cur_at hc
    have hf := h.fits y (List.mem_of_getElem? hy)
    have hn1 := hf.n1
    have hn2 := hf.n2
    have g1 : (0 : Int) ≤ (lb a p.l : Int) ∧ (lb a p.l : Int) < (p.l.length : Int) := ⟨by omega, by omega⟩
    have e1 : iw .i64 (y.n - 1) = y.n - 1 := by rw [iw64] <;> omega
    simp only [go_sem,Nat.reduceAdd,Nat.reduceSub,Nat.reduceMul,Nat.reduceEqDiff,Nat.reduceLeDiff,Nat.reduceLT,↓reduceIte,Int.reduceToNat,reduceCtorEq,Int.reduceLT,Int.reduceLE,Int.reduceGT,Int.reduceGE,Int.reduceEq,Int.reduceNe,Int.reduceNeg,Int.reduceAdd,Int.reduceSub,Option.isSome_some]
    refine rK_use (enters_of Tryd.func39 rfl (by decide)) (pcopied_u p h.fit _) ?_
    have hset : (p.l.map rp).set (lb a p.l) [iv y.at_, bv y.old, iv (y.n - 1)] = (p.l.set (lb a p.l) ⟨y.at_, y.old, y.n - 1⟩).map rp := set_rp _ _ ⟨y.at_, y.old, y.n - 1⟩
    have hs1 : (p.l.set (lb a p.l) ⟨y.at_, y.old, y.n - 1⟩)[lb a p.l]? = some ⟨y.at_, y.old, y.n - 1⟩ := List.getElem?_set_self hlb
    simp only [go_sem,Nat.reduceAdd,Nat.reduceSub,Nat.reduceMul,Nat.reduceEqDiff,Nat.reduceLeDiff,Nat.reduceLT,↓reduceIte,Int.reduceToNat,reduceCtorEq,Int.reduceLT,Int.reduceLE,Int.reduceGT,Int.reduceGE,Int.reduceEq,Int.reduceNe,Int.reduceNeg,Int.reduceAdd,Int.reduceSub,g1,hy,List.length_map,List.getElem?_map,e1,hlb,hset,hs1,List.length_set]
    by_cases hn : y.n = 1
    · rw [if_pos hn] at hpost
      have hz : y.n - 1 = 0 := by omega
      have e2 : iw .i64 ((lb a p.l : Int) + 1) = ((lb a p.l + 1 : Nat) : Int) := by rw [iw64] <;> omega
      have g2 : (0 : Int) ≤ a ∧ a < (p.s.byt.length : Int) := by rw [← hya]; exact ⟨hf.a0, hf.a1⟩
      have g3 : a.toNat < p.s.byt.length := by omega
      obtain ⟨z, hzz⟩ := at_lt (l := p.s.byt) (i := a.toNat) g3
      have eset : (p.s.byt.map rb).set a.toNat [.int .u8 (y.old.toNat : Int)] = (p.s.put a.toNat y.old).byt.map rb := by rw [Sp.put, List.map_set]
      simp only [go_sem,Nat.reduceAdd,Nat.reduceSub,Nat.reduceMul,Nat.reduceEqDiff,Nat.reduceLeDiff,Nat.reduceLT,↓reduceIte,Int.reduceToNat,reduceCtorEq,Int.reduceLT,Int.reduceLE,Int.reduceGT,Int.reduceGE,Int.reduceEq,Int.reduceNe,Int.reduceNeg,Int.reduceAdd,Int.reduceSub,eq_true hz]
      refine draw [.qu 0 0, .qu 0 0, .qu 0 0, .qu 0 0, .qu 0 0, .qu 0 0, .qu 0 0, .qu 0 0, .qu 0 0, .qu 0 0, .qu 0 0, .mn 0] (by kernel_rfl) (by kernel_rfl) ?_
      simp only [go_sem,Nat.reduceAdd,Nat.reduceSub,Nat.reduceMul,Nat.reduceEqDiff,Nat.reduceLeDiff,Nat.reduceLT,↓reduceIte,Int.reduceToNat,reduceCtorEq,Int.reduceLT,Int.reduceLE,Int.reduceGT,Int.reduceGE,Int.reduceEq,Int.reduceNe,Int.reduceNeg,Int.reduceAdd,Int.reduceSub,g1,g2,g3,hs1,hzz,List.length_map,List.getElem?_map,List.length_set,eset,e2]
      have hdel := delete_c (p.l.set (lb a p.l) ⟨y.at_, y.old, y.n - 1⟩) (lb a p.l) (by rw [List.length_set]; exact hlb) (by rw [List.length_set]; omega)
      rw [List.length_set, List.eraseIdx_set_eq] at hdel
      refine rK_use (enters_of Tryd.func40 rfl (by decide)) (hdel.useE [4] (.sl 4 0 (p.l.length - 1) none) [.rows 3 [p.cells], .rows 1 [[iv a]], .rows 3 [[.view false 1 (p.s.perm.map r1), .sl 3 0 p.s.byt.length none, .sl 4 0 p.l.length none]], .rows 1 ((p.s.put a.toNat y.old).byt.map rb), .rows 3 ((p.l.eraseIdx (lb a p.l)).map rp ++ [rz])] (by simp) rfl (by simp) ?_ rfl rfl ?_) ?_
      · simp only [List.map_cons, List.map_nil, bren_rp, List.getElem?_cons_succ, List.getElem?_cons_zero]
      · have : Blk.ren (pi [4] 5) (.rows 3 ((p.l.eraseIdx (lb a p.l)).map rp ++ [rz])) = .rows 3 ((p.l.eraseIdx (lb a p.l)).map rp ++ [rz]) := bren_lt (m := 0) (fun k hk => absurd hk (Nat.not_lt_zero _)) (fun row hr => by
          rcases List.mem_append.1 hr with hr | hr
          · exact rp_lt0 _ row hr
          · rw [List.mem_singleton] at hr; subst hr; rfl)
        simp only [patch, setMany, List.length_cons, List.length_nil, List.drop_succ_cons, List.drop_zero, List.map_cons, List.map_nil, Nat.zero_add, Nat.reduceAdd, this]
        rfl
      have hle : (p.l.eraseIdx (lb a p.l)).length = p.l.length - 1 := by rw [List.length_eraseIdx, if_pos hlb]
      simp only [go_sem,Nat.reduceAdd,Nat.reduceSub,Nat.reduceMul,Nat.reduceEqDiff,Nat.reduceLeDiff,Nat.reduceLT,↓reduceIte,Int.reduceToNat,reduceCtorEq,Int.reduceLT,Int.reduceLE,Int.reduceGT,Int.reduceGE,Int.reduceEq,Int.reduceNe,Int.reduceNeg,Int.reduceAdd,Int.reduceSub,Pd.cells]
      refine up_cell (q := ⟨p.s.put a.toNat y.old, p.l.eraseIdx (lb a p.l)⟩) p.s.byt.length (p.l.length - 1) _ _ (List.take_of_length_le (by simp [Sp.put])) ?_ (by simp [Sp.put]) (by simp [hle]) (rb_lt0 _) ?_ ?_
      · rw [List.take_append_of_le_length (by simp [hle]), List.take_of_length_le (by simp [hle])]
      · intro row hr
        rcases List.mem_append.1 hr with hr | hr
        · exact rp_lt0 _ row hr
        · rw [List.mem_singleton] at hr; subst hr; rfl
      · rw [← hpost]
        exact ⟨rfl, rfl⟩
    · rw [if_neg hn] at hpost
      have hz : ¬ y.n - 1 = 0 := by omega
      simp only [go_sem,Nat.reduceAdd,Nat.reduceSub,Nat.reduceMul,Nat.reduceEqDiff,Nat.reduceLeDiff,Nat.reduceLT,↓reduceIte,Int.reduceToNat,reduceCtorEq,Int.reduceLT,Int.reduceLE,Int.reduceGT,Int.reduceGE,Int.reduceEq,Int.reduceNe,Int.reduceNeg,Int.reduceAdd,Int.reduceSub,eq_false hz]
      refine up_cell (q := ⟨p.s, p.l.set (lb a p.l) ⟨y.at_, y.old, y.n - 1⟩⟩) p.s.byt.length p.l.length _ _ (List.take_of_length_le (by simp)) (List.take_of_length_le (by simp)) (by simp) (by simp) (rb_lt0 _) (rp_lt0 _) ?_
      rw [← hpost]
      exact ⟨rfl, rfl⟩
noncomputable def Pd.remA (p : Pd) (a : Int) : Pd × Int := if p.chk = 0 then p.rem a else (p0, 70)
theorem remA_ok {p : Pd} (h : p.ok) (a : Int) : p.remA a = p.rem a := if_pos (Pd.chk_ok h)
theorem remA_no {p : Pd} (h : ¬ p.ok) (a : Int) : p.remA a = (p0, 70) := if_neg (by rw [Pd.chk_no h]; decide)
theorem rem_p0 (p : Pd) (a : Int) (h0 : (p.remA a).2 ≠ 0) : (p.remA a).1 = p0 := by
  by_cases h : p.ok
  · rw [remA_ok h] at h0 ⊢
    unfold Pd.rem at h0 ⊢
    cases hc : p.cur a with
    | none => rfl
    | some y =>
      rw [hc] at h0
      simp only at h0 ⊢
      split at h0 <;> exact absurd rfl h0
  · rw [remA_no h]
theorem remove1_pan (p : Pd) (a : Int) (h0 : (p.remA a).2 ≠ 0) : ACalls Tryd.prog 36 [.ptr 0 0 0, .ptr 1 0 0, .ptr 2 0 0] [.rows 3 [p.cells], .rows 1 [[iv a]], .rows 3 [pdN]] (fun o H => o = .pan (rfd (p.remA a).2) ∧ H = [.rows 3 [p.cells], .rows 1 [[iv a]], .rows 3 [pdN]]) := by
  refine ACalls.up ?_
  refine ACalls.intro (cs := []) (n := 54) Tryd.func36 rfl rfl rfl (by kernel_rfl) rfl ?_
  generalize hpost : (fun (o : Out) (H : Heap) => o = Out.pan (rfd (p.remA a).2) ∧ H = [.rows 3 [p.cells], .rows 1 [[iv a]], .rows 3 [pdN]]) = post
  have fin : ∀ n, n = (p.remA a).2 → Up 3 post (.pan (rfd n)) [.rows 3 [p.cells], .rows 1 [[iv a]], .rows 3 [pdN]] := fun n h => .done (by rw [← hpost, ← h]; exact ⟨rfl, rfl⟩)
  simp only [go_sem,Nat.reduceAdd,Nat.reduceSub,Nat.reduceMul,Nat.reduceEqDiff,Nat.reduceLeDiff,Nat.reduceLT,↓reduceIte,Int.reduceToNat,reduceCtorEq,Int.reduceLT,Int.reduceLE,Int.reduceGT,Int.reduceGE,Int.reduceEq,Int.reduceNe,Int.reduceNeg,Int.reduceAdd,Int.reduceSub,Pd.cells,pdN]
  refine rK_use (enters_of Tryd.func20 rfl (by decide)) (ACalls.pure_use (pcheck_c p) rfl rfl) ?_
  by_cases h : p.ok
  rotate_left
  · rw [Pd.chk_no h]
    simp only [go_sem,Nat.reduceAdd,Nat.reduceSub,Nat.reduceMul,Nat.reduceEqDiff,Nat.reduceLeDiff,Nat.reduceLT,↓reduceIte,Int.reduceToNat,reduceCtorEq,Int.reduceLT,Int.reduceLE,Int.reduceGT,Int.reduceGE,Int.reduceEq,Int.reduceNe,Int.reduceNeg,Int.reduceAdd,Int.reduceSub]
    refine rK_pans (enters_of Tryd.func37 rfl (by decide)) (ACalls.pure_pan (pmust_no 70 (by decide)) rfl rfl) ?_
    simp only [go_sem,Nat.reduceAdd,Nat.reduceSub,Nat.reduceMul,Nat.reduceEqDiff,Nat.reduceLeDiff,Nat.reduceLT,↓reduceIte,Int.reduceToNat,reduceCtorEq,Int.reduceLT,Int.reduceLE,Int.reduceGT,Int.reduceGE,Int.reduceEq,Int.reduceNe,Int.reduceNeg,Int.reduceAdd,Int.reduceSub]
    exact fin 70 (by rw [remA_no h])
  have hl := h.len
  rw [Pd.chk_ok h]
  simp only [go_sem,Nat.reduceAdd,Nat.reduceSub,Nat.reduceMul,Nat.reduceEqDiff,Nat.reduceLeDiff,Nat.reduceLT,↓reduceIte,Int.reduceToNat,reduceCtorEq,Int.reduceLT,Int.reduceLE,Int.reduceGT,Int.reduceGE,Int.reduceEq,Int.reduceNe,Int.reduceNeg,Int.reduceAdd,Int.reduceSub]
  refine rK_use (enters_of Tryd.func37 rfl (by decide)) (ACalls.pure_use (pmust_ok) rfl rfl) ?_
  simp only [go_sem,Nat.reduceAdd,Nat.reduceSub,Nat.reduceMul,Nat.reduceEqDiff,Nat.reduceLeDiff,Nat.reduceLT,↓reduceIte,Int.reduceToNat,reduceCtorEq,Int.reduceLT,Int.reduceLE,Int.reduceGT,Int.reduceGE,Int.reduceEq,Int.reduceNe,Int.reduceNeg,Int.reduceAdd,Int.reduceSub]
  refine rK_use (enters_of Tryd.func38 rfl (by decide)) (ACalls.pure_use (find_c p.l h.sor (by omega) a) rfl rfl) ?_
  rw [fnd_cur]
  rw [remA_ok h] at h0 fin
  unfold Pd.rem at h0 fin
  cases hc : p.cur a with
  | none =>
    rw [hc] at fin
    simp only [go_sem,Nat.reduceAdd,Nat.reduceSub,Nat.reduceMul,Nat.reduceEqDiff,Nat.reduceLeDiff,Nat.reduceLT,↓reduceIte,Int.reduceToNat,reduceCtorEq,Int.reduceLT,Int.reduceLE,Int.reduceGT,Int.reduceGE,Int.reduceEq,Int.reduceNe,Int.reduceNeg,Int.reduceAdd,Int.reduceSub,Option.isSome_none]
    refine rK_pans (enters_of Tryd.func37 rfl (by decide)) (ACalls.pure_pan (pmust_no 3 (by decide)) rfl rfl) ?_
    simp only [go_sem,Nat.reduceAdd,Nat.reduceSub,Nat.reduceMul,Nat.reduceEqDiff,Nat.reduceLeDiff,Nat.reduceLT,↓reduceIte,Int.reduceToNat,reduceCtorEq,Int.reduceLT,Int.reduceLE,Int.reduceGT,Int.reduceGE,Int.reduceEq,Int.reduceNe,Int.reduceNeg,Int.reduceAdd,Int.reduceSub]
    exact fin 3 rfl
  | some y =>
    rw [hc] at h0
    simp only at h0
    split at h0 <;> exact absurd rfl h0
theorem Remove_c (p : Pd) (a : Int) : ACalls Tryd.prog 17 [p.av, iv a] [] (fun o H => o = .ret (.tuple [(p.remA a).1.av, iv (p.remA a).2]) ∧ H = []) := by
  refine ACalls.up ?_
  refine ACalls.intro (cs := []) (n := 13) Tryd.func17 rfl rfl rfl (by kernel_rfl) rfl ?_
  generalize hpost : (fun (o : Out) (H : Heap) => o = Out.ret (.tuple [(p.remA a).1.av, iv (p.remA a).2]) ∧ H = []) = post
  simp only [go_sem,Nat.reduceAdd,Nat.reduceSub,Nat.reduceMul,Nat.reduceEqDiff,Nat.reduceLeDiff,Nat.reduceLT,↓reduceIte,Int.reduceToNat,reduceCtorEq,Int.reduceLT,Int.reduceLE,Int.reduceGT,Int.reduceGE,Int.reduceEq,Int.reduceNe,Int.reduceNeg,Int.reduceAdd,Int.reduceSub,Pd.av]
  by_cases h0 : (p.remA a).2 = 0
  · have hp : p.ok := Classical.byContradiction fun h => by rw [remA_no h] at h0; cases h0
    have e := remA_ok hp a
    have hcl := remove1_ok p hp a (by rw [← e]; exact h0)
    rw [← e] at hcl
    refine rK_use (enters_of Tryd.func28 rfl (by decide)) (caught_ret (enters_of Tryd.func36 rfl (by decide)) hcl rfl (by simp [Blk.lt, ltL, AV.lt, Pd.cells, pdN]) (by simp [Blk.lt, ltL, AV.lt, Pd.cells]) rfl) ?_
    simp only [go_sem,Nat.reduceAdd,Nat.reduceSub,Nat.reduceMul,Nat.reduceEqDiff,Nat.reduceLeDiff,Nat.reduceLT,↓reduceIte,Int.reduceToNat,reduceCtorEq,Int.reduceLT,Int.reduceLE,Int.reduceGT,Int.reduceGE,Int.reduceEq,Int.reduceNe,Int.reduceNeg,Int.reduceAdd,Int.reduceSub,Pd.cells]
    refine finv rfl ?_ _
    rw [← hpost, h0]
    exact ⟨rfl, rfl⟩
  · refine rK_use (enters_of Tryd.func28 rfl (by decide)) (caught_pan (p.remA a).2 (enters_of Tryd.func36 rfl (by decide)) (remove1_pan p a h0) rfl (by simp [Blk.lt, ltL, AV.lt, Pd.cells, pdN]) (by simp [Blk.lt, ltL, AV.lt, Pd.cells, pdN]) rfl) ?_
    simp only [go_sem,Nat.reduceAdd,Nat.reduceSub,Nat.reduceMul,Nat.reduceEqDiff,Nat.reduceLeDiff,Nat.reduceLT,↓reduceIte,Int.reduceToNat,reduceCtorEq,Int.reduceLT,Int.reduceLE,Int.reduceGT,Int.reduceGE,Int.reduceEq,Int.reduceNe,Int.reduceNeg,Int.reduceAdd,Int.reduceSub,Pd.cells,pdN,eq_false h0]
    refine .le (.ret (.tuple (.cons pdN_le (.cons (.refl _) .nil)))) (LeH.refl _) (finv rfl ?_ _)
    rw [← hpost, rem_p0 p a h0]
    exact ⟨rfl, rfl⟩
end Go.Proofs.YtfiflailjbmlpaaDoor
set_option maxRecDepth 100000
set_option linter.unusedVariables false
set_option linter.unusedSimpArgs false
namespace Go.Proofs.YtfiflailjbmlpaaDoor
open Go.AM
theorem has_cur {p : Pd} (hs : Srt p.l) (a : Int) : p.has a = (p.cur a).isSome := by
  cases hc : p.cur a with
  | none => exact (Pd.cur_none hs).1 hc
  | some y =>
    have := (Pd.cur_some hs).1 hc
    exact Pd.has_true.2 ⟨y, this.1, this.2⟩
theorem pstep_c (p : Pd) (h : p.ok) (r : Rg) (hr : r.wf) (slot : Int) (hs : I64 slot) : ACalls Tryd.prog 30 [p.av, r.av, iv slot] [] (fun o H => o = .ret (.tuple [(p.stepE r slot).1.av, iv (p.stepE r slot).2]) ∧ H = []) := by
  refine ACalls.up ?_
  refine ACalls.intro (cs := []) (n := 131) Tryd.func30 rfl rfl rfl (by kernel_rfl) rfl ?_
  generalize hpost : (fun (o : Out) (H : Heap) => o = Out.ret (.tuple [(p.stepE r slot).1.av, iv (p.stepE r slot).2]) ∧ H = []) = post
  have fin : ∀ (e : Eff) n H, (e, n) = p.stepE r slot → Up 0 post (.ret (.tuple [.agg e.cells, iv n])) H := fun e n H h => finv (by simp [AV.lt, ltL, Eff.cells, Eff.cellsD]) (by rw [← hpost, ← h]; exact ⟨rfl, rfl⟩) H
  have hl := h.len
  simp only [go_sem,Nat.reduceAdd,Nat.reduceSub,Nat.reduceMul,Nat.reduceEqDiff,Nat.reduceLeDiff,Nat.reduceLT,↓reduceIte,Int.reduceToNat,reduceCtorEq,Int.reduceLT,Int.reduceLE,Int.reduceGT,Int.reduceGE,Int.reduceEq,Int.reduceNe,Int.reduceNeg,Int.reduceAdd,Int.reduceSub,Pd.av,Rg.av,Rg.cells]
  refine rK_use (enters_of Tryd.func20 rfl (by decide)) (ACalls.pure_use (pcheck_c p) rfl rfl) ?_
  rw [Pd.chk_ok h]
  simp only [go_sem,Nat.reduceAdd,Nat.reduceSub,Nat.reduceMul,Nat.reduceEqDiff,Nat.reduceLeDiff,Nat.reduceLT,↓reduceIte,Int.reduceToNat,reduceCtorEq,Int.reduceLT,Int.reduceLE,Int.reduceGT,Int.reduceGE,Int.reduceEq,Int.reduceNe,Int.reduceNeg,Int.reduceAdd,Int.reduceSub]
  refine rK_use (enters_of Tryd.func37 rfl (by decide)) (ACalls.pure_use (pmust_ok) rfl rfl) ?_
  simp only [go_sem,Nat.reduceAdd,Nat.reduceSub,Nat.reduceMul,Nat.reduceEqDiff,Nat.reduceLeDiff,Nat.reduceLT,↓reduceIte,Int.reduceToNat,reduceCtorEq,Int.reduceLT,Int.reduceLE,Int.reduceGT,Int.reduceGE,Int.reduceEq,Int.reduceNe,Int.reduceNeg,Int.reduceAdd,Int.reduceSub]
  refine rK_use (enters_of Tryd.func38 rfl (by decide)) (ACalls.pure_use (find_c p.l h.sor (by omega) r.pc) rfl rfl) ?_
  rw [fnd_cur]
  cases hc : p.cur r.pc with
  | none =>
    simp only [go_sem,Nat.reduceAdd,Nat.reduceSub,Nat.reduceMul,Nat.reduceEqDiff,Nat.reduceLeDiff,Nat.reduceLT,↓reduceIte,Int.reduceToNat,reduceCtorEq,Int.reduceLT,Int.reduceLE,Int.reduceGT,Int.reduceGE,Int.reduceEq,Int.reduceNe,Int.reduceNeg,Int.reduceAdd,Int.reduceSub,Option.isSome_none]
    refine rK_use (enters_of Tryd.func14 rfl (by decide)) (ACalls.pure_use (Step_c p.s h.sok r hr) rfl rfl) ?_
    simp only [go_sem,Nat.reduceAdd,Nat.reduceSub,Nat.reduceMul,Nat.reduceEqDiff,Nat.reduceLeDiff,Nat.reduceLT,↓reduceIte,Int.reduceToNat,reduceCtorEq,Int.reduceLT,Int.reduceLE,Int.reduceGT,Int.reduceGE,Int.reduceEq,Int.reduceNe,Int.reduceNeg,Int.reduceAdd,Int.reduceSub,Eff.av,Eff.cells,Eff.cellsD]
    refine rK_use (enters_of Tryd.func37 rfl (by decide)) (ACalls.pure_use (pmust_ok) rfl rfl) ?_
    simp only [go_sem,Nat.reduceAdd,Nat.reduceSub,Nat.reduceMul,Nat.reduceEqDiff,Nat.reduceLeDiff,Nat.reduceLT,↓reduceIte,Int.reduceToNat,reduceCtorEq,Int.reduceLT,Int.reduceLE,Int.reduceGT,Int.reduceGE,Int.reduceEq,Int.reduceNe,Int.reduceNeg,Int.reduceAdd,Int.reduceSub]
    exact fin (step p.s r) 0 _ (by rw [Pd.stepE, has_cur h.sor, hc, Option.isSome_none, if_neg (by decide)])
  | some y =>
    have hmem := (Pd.cur_some h.sor).1 hc
    have hst : (stand p.clean r.pc).e = 0 := by rw [← hmem.2]; exact h.std y hmem.1
    have hxo : (stand p.clean r.pc).x.ok := dec_ok hst
    simp only [go_sem,Nat.reduceAdd,Nat.reduceSub,Nat.reduceMul,Nat.reduceEqDiff,Nat.reduceLeDiff,Nat.reduceLT,↓reduceIte,Int.reduceToNat,reduceCtorEq,Int.reduceLT,Int.reduceLE,Int.reduceGT,Int.reduceGE,Int.reduceEq,Int.reduceNe,Int.reduceNeg,Int.reduceAdd,Int.reduceSub,Option.isSome_some]
    have hfi : p.stepE r slot = (if (dispE (stand p.clean r.pc).x r.pc slot).2 = 3 then (exec (stand p.clean r.pc).x p.s r, 3)
        else (fixE (stand p.clean r.pc).x (stand p.clean r.pc).n r.pc slot (exec (dispE (stand p.clean r.pc).x r.pc slot).1 p.s (r.at' slot)), (dispE (stand p.clean r.pc).x r.pc slot).2)) := by
      rw [Pd.stepE, has_cur h.sor, hc, Option.isSome_some, if_pos rfl]
    have hdo := disp_ok hxo r.pc slot
    refine draw [.rd 0 1, .qu 0 1, .qu 0 1, .rd 0 1, .qu 0 1, .qu 0 1, .qu 0 1, .qu 0 2, .mn 0, .mn 1, .qu 2 2] (by kernel_rfl) (by kernel_rfl) ?_
    simp only [go_sem,Nat.reduceAdd,Nat.reduceSub,Nat.reduceMul,Nat.reduceEqDiff,Nat.reduceLeDiff,Nat.reduceLT,↓reduceIte,Int.reduceToNat,reduceCtorEq,Int.reduceLT,Int.reduceLE,Int.reduceGT,Int.reduceGE,Int.reduceEq,Int.reduceNe,Int.reduceNeg,Int.reduceAdd,Int.reduceSub]
    refine y_call (enters_of Tryd.func31 rfl (by decide)) (fun _ => ACalls.pure_use (clean_c p h.fit h.bounds) rfl rfl) ?_
    simp only [go_sem,Nat.reduceAdd,Nat.reduceSub,Nat.reduceMul,Nat.reduceEqDiff,Nat.reduceLeDiff,Nat.reduceLT,↓reduceIte,Int.reduceToNat,reduceCtorEq,Int.reduceLT,Int.reduceLE,Int.reduceGT,Int.reduceGE,Int.reduceEq,Int.reduceNe,Int.reduceNeg,Int.reduceAdd,Int.reduceSub,Sp.av]
    refine y_call (enters_of Tryd.func46 rfl (by decide)) (fun _ => ACalls.pure_use (standing_c p.clean h.cok r.pc) rfl (by simp [sitC, Ins.cells, AV.lt, ltL])) ?_
    simp only [go_sem,Nat.reduceAdd,Nat.reduceSub,Nat.reduceMul,Nat.reduceEqDiff,Nat.reduceLeDiff,Nat.reduceLT,↓reduceIte,Int.reduceToNat,reduceCtorEq,Int.reduceLT,Int.reduceLE,Int.reduceGT,Int.reduceGE,Int.reduceEq,Int.reduceNe,Int.reduceNeg,Int.reduceAdd,Int.reduceSub,sitC,Ins.cells]
    generalize stand p.clean r.pc = D at *
    refine rK_use (enters_of Tryd.func24 rfl (by decide)) (ACalls.pure_use (displaced_c D.x r.pc slot) rfl rfl) ?_
    generalize dispE D.x r.pc slot = E at *
    simp only [go_sem,Nat.reduceAdd,Nat.reduceSub,Nat.reduceMul,Nat.reduceEqDiff,Nat.reduceLeDiff,Nat.reduceLT,↓reduceIte,Int.reduceToNat,reduceCtorEq,Int.reduceLT,Int.reduceLE,Int.reduceGT,Int.reduceGE,Int.reduceEq,Int.reduceNe,Int.reduceNeg,Int.reduceAdd,Int.reduceSub,Ins.av,Ins.cells]
    rcases Decidable.em (E.2 = 3) with h3 | h3
    · simp only [go_sem,Nat.reduceAdd,Nat.reduceSub,Nat.reduceMul,Nat.reduceEqDiff,Nat.reduceLeDiff,Nat.reduceLT,↓reduceIte,Int.reduceToNat,reduceCtorEq,Int.reduceLT,Int.reduceLE,Int.reduceGT,Int.reduceGE,Int.reduceEq,Int.reduceNe,Int.reduceNeg,Int.reduceAdd,Int.reduceSub,eq_true h3]
      refine rK_use (enters_of Tryd.func11 rfl (by decide)) (ACalls.pure_use (Exec_c D.x hxo p.s h.sok r hr) rfl rfl) ?_
      simp only [go_sem,Nat.reduceAdd,Nat.reduceSub,Nat.reduceMul,Nat.reduceEqDiff,Nat.reduceLeDiff,Nat.reduceLT,↓reduceIte,Int.reduceToNat,reduceCtorEq,Int.reduceLT,Int.reduceLE,Int.reduceGT,Int.reduceGE,Int.reduceEq,Int.reduceNe,Int.reduceNeg,Int.reduceAdd,Int.reduceSub,Eff.av,Eff.cells,Eff.cellsD]
      refine rK_use (enters_of Tryd.func37 rfl (by decide)) (ACalls.pure_use (pmust_ok) rfl rfl) ?_
      simp only [go_sem,Nat.reduceAdd,Nat.reduceSub,Nat.reduceMul,Nat.reduceEqDiff,Nat.reduceLeDiff,Nat.reduceLT,↓reduceIte,Int.reduceToNat,reduceCtorEq,Int.reduceLT,Int.reduceLE,Int.reduceGT,Int.reduceGE,Int.reduceEq,Int.reduceNe,Int.reduceNeg,Int.reduceAdd,Int.reduceSub]
      exact fin (exec D.x p.s r) E.2 _ (by rw [hfi, if_pos h3, h3])
    · rw [if_neg h3] at hfi
      simp only [go_sem,Nat.reduceAdd,Nat.reduceSub,Nat.reduceMul,Nat.reduceEqDiff,Nat.reduceLeDiff,Nat.reduceLT,↓reduceIte,Int.reduceToNat,reduceCtorEq,Int.reduceLT,Int.reduceLE,Int.reduceGT,Int.reduceGE,Int.reduceEq,Int.reduceNe,Int.reduceNeg,Int.reduceAdd,Int.reduceSub,eq_false h3]
      refine rK_use (enters_of Tryd.func11 rfl (by decide)) (ACalls.pure_use (Exec_c E.1 hdo p.s h.sok (r.at' slot) ⟨hr.reg, hs⟩) rfl rfl) ?_
      generalize exec E.1 p.s (r.at' slot) = F at *
      simp only [go_sem,Nat.reduceAdd,Nat.reduceSub,Nat.reduceMul,Nat.reduceEqDiff,Nat.reduceLeDiff,Nat.reduceLT,↓reduceIte,Int.reduceToNat,reduceCtorEq,Int.reduceLT,Int.reduceLE,Int.reduceGT,Int.reduceGE,Int.reduceEq,Int.reduceNe,Int.reduceNeg,Int.reduceAdd,Int.reduceSub,Eff.av,Eff.cells,Eff.cellsD]
      refine rK_use (enters_of Tryd.func37 rfl (by decide)) (ACalls.pure_use (pmust_ok) rfl rfl) ?_
      simp only [go_sem,Nat.reduceAdd,Nat.reduceSub,Nat.reduceMul,Nat.reduceEqDiff,Nat.reduceLeDiff,Nat.reduceLT,↓reduceIte,Int.reduceToNat,reduceCtorEq,Int.reduceLT,Int.reduceLE,Int.reduceGT,Int.reduceGE,Int.reduceEq,Int.reduceNe,Int.reduceNeg,Int.reduceAdd,Int.reduceSub]
      refine condD_dec (fun hk => ?_) (fun hk => ?_)
      · simp only [go_sem,Nat.reduceAdd,Nat.reduceSub,Nat.reduceMul,Nat.reduceEqDiff,Nat.reduceLeDiff,Nat.reduceLT,↓reduceIte,Int.reduceToNat,reduceCtorEq,Int.reduceLT,Int.reduceLE,Int.reduceGT,Int.reduceGE,Int.reduceEq,Int.reduceNe,Int.reduceNeg,Int.reduceAdd,Int.reduceSub]
        have e : fixE D.x D.n r.pc slot F = ⟨F.rg.at' r.pc, F.pos, F.data, F.trap, D.x⟩ := by rw [fixE, if_pos hk]
        rw [e] at hfi
        exact fin ⟨F.rg.at' r.pc, F.pos, F.data, F.trap, D.x⟩ E.2 _ hfi.symm
      · have same : ¬ ((D.x.op ≠ 26 ∧ D.x.op ≠ 29) ∧ F.rg.pc = iw .i64 (slot + D.n)) → (⟨F.rg, F.pos, F.data, F.trap, D.x⟩, E.2) = p.stepE r slot := fun hn => by
          rw [hfi, fixE, if_neg hk, if_neg hn]
          rfl
        rcases Decidable.em (D.x.op = 26) with q1 | q1
        · simp only [go_sem,Nat.reduceAdd,Nat.reduceSub,Nat.reduceMul,Nat.reduceEqDiff,Nat.reduceLeDiff,Nat.reduceLT,↓reduceIte,Int.reduceToNat,reduceCtorEq,Int.reduceLT,Int.reduceLE,Int.reduceGT,Int.reduceGE,Int.reduceEq,Int.reduceNe,Int.reduceNeg,Int.reduceAdd,Int.reduceSub,eq_true q1]
          exact fin ⟨F.rg, F.pos, F.data, F.trap, D.x⟩ E.2 _ (same fun h => h.1.1 q1)
        rcases Decidable.em (D.x.op = 29) with q2 | q2
        · simp only [go_sem,Nat.reduceAdd,Nat.reduceSub,Nat.reduceMul,Nat.reduceEqDiff,Nat.reduceLeDiff,Nat.reduceLT,↓reduceIte,Int.reduceToNat,reduceCtorEq,Int.reduceLT,Int.reduceLE,Int.reduceGT,Int.reduceGE,Int.reduceEq,Int.reduceNe,Int.reduceNeg,Int.reduceAdd,Int.reduceSub,eq_false q1,eq_true q2]
          exact fin ⟨F.rg, F.pos, F.data, F.trap, D.x⟩ E.2 _ (same fun h => h.1.2 q2)
        rcases Decidable.em (F.rg.pc = iw .i64 (slot + D.n)) with q3 | q3
        · simp only [go_sem,Nat.reduceAdd,Nat.reduceSub,Nat.reduceMul,Nat.reduceEqDiff,Nat.reduceLeDiff,Nat.reduceLT,↓reduceIte,Int.reduceToNat,reduceCtorEq,Int.reduceLT,Int.reduceLE,Int.reduceGT,Int.reduceGE,Int.reduceEq,Int.reduceNe,Int.reduceNeg,Int.reduceAdd,Int.reduceSub,eq_false q1,eq_false q2,eq_true q3]
          exact fin ⟨F.rg.at' (iw .i64 (r.pc + D.n)), F.pos, F.data, F.trap, D.x⟩ E.2 _ (by rw [hfi, fixE, if_neg hk, if_pos ⟨⟨q1, q2⟩, q3⟩])
        · simp only [go_sem,Nat.reduceAdd,Nat.reduceSub,Nat.reduceMul,Nat.reduceEqDiff,Nat.reduceLeDiff,Nat.reduceLT,↓reduceIte,Int.reduceToNat,reduceCtorEq,Int.reduceLT,Int.reduceLE,Int.reduceGT,Int.reduceGE,Int.reduceEq,Int.reduceNe,Int.reduceNeg,Int.reduceAdd,Int.reduceSub,eq_false q1,eq_false q2,eq_false q3]
          exact fin ⟨F.rg, F.pos, F.data, F.trap, D.x⟩ E.2 _ (same fun h => q3 h.2)
theorem PStep_c (p : Pd) (h : p.ok) (r : Rg) (hr : r.wf) (slot : Int) (hs : I64 slot) : ACalls Tryd.prog 12 [p.av, r.av, iv slot] [] (fun o H => o = .ret (.tuple [(p.stepE r slot).1.av, iv (p.stepE r slot).2, iv 0]) ∧ H = []) := by
  refine ACalls.up ?_
  refine ACalls.intro (cs := []) (n := 17) Tryd.func12 rfl rfl rfl (by kernel_rfl) rfl ?_
  generalize hpost : (fun (o : Out) (H : Heap) => o = Out.ret (.tuple [(p.stepE r slot).1.av, iv (p.stepE r slot).2, iv 0]) ∧ H = []) = post
  simp only [go_sem,Nat.reduceAdd,Nat.reduceSub,Nat.reduceMul,Nat.reduceEqDiff,Nat.reduceLeDiff,Nat.reduceLT,↓reduceIte,Int.reduceToNat,reduceCtorEq,Int.reduceLT,Int.reduceLE,Int.reduceGT,Int.reduceGE,Int.reduceEq,Int.reduceNe,Int.reduceNeg,Int.reduceAdd,Int.reduceSub,Pd.av,Rg.av,Rg.cells]
  have hcl : ACalls Tryd.prog 29 [.ptr 0 0 0, .ptr 1 0 0, .ptr 2 0 0, .ptr 3 0 0, .ptr 4 0 0] [.rows 3 [p.cells], .rows 9 [r.cells], .rows 1 [[iv slot]], .rows 19 [eff0.cellsD dnil], .rows 1 [[iv 0]]] (fun o H => o = .ret (.tuple []) ∧ H = [.rows 3 [p.cells], .rows 9 [r.cells], .rows 1 [[iv slot]], .rows 19 [(p.stepE r slot).1.cells], .rows 1 [[iv (p.stepE r slot).2]]]) := by
    refine ACalls.up ?_
    refine ACalls.intro (cs := []) (n := 12) Tryd.func29 rfl rfl rfl (by kernel_rfl) rfl ?_
    simp only [go_sem,Nat.reduceAdd,Nat.reduceSub,Nat.reduceMul,Nat.reduceEqDiff,Nat.reduceLeDiff,Nat.reduceLT,↓reduceIte,Int.reduceToNat,reduceCtorEq,Int.reduceLT,Int.reduceLE,Int.reduceGT,Int.reduceGE,Int.reduceEq,Int.reduceNe,Int.reduceNeg,Int.reduceAdd,Int.reduceSub,Pd.cells,Rg.cells,Eff.cellsD,eff0]
    refine rK_use (enters_of Tryd.func30 rfl (by decide)) (ACalls.pure_use (pstep_c p h r hr slot hs) rfl rfl) ?_
    generalize p.stepE r slot = E at *
    simp only [go_sem,Nat.reduceAdd,Nat.reduceSub,Nat.reduceMul,Nat.reduceEqDiff,Nat.reduceLeDiff,Nat.reduceLT,↓reduceIte,Int.reduceToNat,reduceCtorEq,Int.reduceLT,Int.reduceLE,Int.reduceGT,Int.reduceGE,Int.reduceEq,Int.reduceNe,Int.reduceNeg,Int.reduceAdd,Int.reduceSub,Eff.av,Eff.cells,Eff.cellsD]
    exact .done ⟨rfl, rfl⟩
  refine rK_use (enters_of Tryd.func28 rfl (by decide)) (caught_ret (enters_of Tryd.func29 rfl (by decide)) hcl rfl (by simp [Blk.lt, ltL, AV.lt, Pd.cells, Rg.cells, Eff.cellsD]) (by simp [Blk.lt, ltL, AV.lt, Pd.cells, Rg.cells, Eff.cells, Eff.cellsD]) rfl) ?_
  generalize p.stepE r slot = E at *
  simp only [go_sem,Nat.reduceAdd,Nat.reduceSub,Nat.reduceMul,Nat.reduceEqDiff,Nat.reduceLeDiff,Nat.reduceLT,↓reduceIte,Int.reduceToNat,reduceCtorEq,Int.reduceLT,Int.reduceLE,Int.reduceGT,Int.reduceGE,Int.reduceEq,Int.reduceNe,Int.reduceNeg,Int.reduceAdd,Int.reduceSub,Eff.cells,Eff.cellsD]
  refine draw [.qu 0 0, .rd 0 1, .mn 0, .mn 1, .qu 2 2] (by kernel_rfl) (by kernel_rfl) ?_
  simp only [go_sem,Nat.reduceAdd,Nat.reduceSub,Nat.reduceMul,Nat.reduceEqDiff,Nat.reduceLeDiff,Nat.reduceLT,↓reduceIte,Int.reduceToNat,reduceCtorEq,Int.reduceLT,Int.reduceLE,Int.reduceGT,Int.reduceGE,Int.reduceEq,Int.reduceNe,Int.reduceNeg,Int.reduceAdd,Int.reduceSub]
  refine finv (by simp [AV.lt, ltL]) ?_ _
  rw [← hpost]
  exact ⟨rfl, rfl⟩
end Go.Proofs.YtfiflailjbmlpaaDoor
set_option maxRecDepth 100000
set_option linter.unusedVariables false
set_option linter.unusedSimpArgs false
namespace Go.Proofs.YtfiflailjbmlpaaDoor
open Go.AM
def twoP : Pd := ⟨⟨[4, 3], [144, 0, 1, 153, 122, 127, 155, 10, 0] ++ List.replicate 119 0⟩, []⟩
theorem two_c : ACalls Tryd.prog 22 [] [] (fun o H => o = .ret twoP.av ∧ H = []) := by
  refine ACalls.up ?_
  refine ACalls.intro (cs := []) (n := 8) Tryd.func22 rfl rfl rfl (by kernel_rfl) rfl ?_
  generalize hpost : (fun (o : Out) (H : Heap) => o = Out.ret twoP.av ∧ H = []) = post
  simp only [go_sem,Nat.reduceAdd,Nat.reduceSub,Nat.reduceMul,Nat.reduceEqDiff,Nat.reduceLeDiff,Nat.reduceLT,↓reduceIte,Int.reduceToNat,reduceCtorEq,Int.reduceLT,Int.reduceLE,Int.reduceGT,Int.reduceGE,Int.reduceEq,Int.reduceNe,Int.reduceNeg,Int.reduceAdd,Int.reduceSub]
  refine .le (o' := .ret (.agg [.sl 3 0 2 (some 2), .sl 2 0 128 none, .view false 3 []])) (.ret (.agg (.cons (.refl _) (.cons (.refl _) (.cons (.nil true false 0 3 (by simp)) .nil))))) (LeH.refl _) ?_
  refine up_two 3 1 (twoP.s.perm.map r1) 2 1 (twoP.s.byt.map rb) (by decide) rfl rfl (r1_lt0 _) (rb_lt0 _) ?_ ?_ ?_ ?_
  · simp [Out.fzOk, AV.fzOk, fzOkL, twoP]
  · simp [Out.fzOk, Out.fz, AV.fz, fzL, AV.fzOk, fzOkL, twoP]
  · rfl
  · rw [← hpost]
    exact ⟨rfl, rfl⟩
theorem two_ok : twoP.ok := ⟨by decide, by decide, List.Pairwise.nil, (fun x h => by cases h), (fun x h => by cases h)⟩
def p1P : Pd := ⟨twoP.s.put 0 204, [⟨0, 144, 1⟩]⟩
def p2P : Pd := ⟨twoP.s.put 0 204, [⟨0, 144, 2⟩]⟩
theorem I64z : I64 0 := by unfold I64; omega
theorem it1 : twoP.inst 0 = (p1P, 0) := by kernel_rfl
theorem it2 : twoP.inst 1 = (p0, 71) := by kernel_rfl
theorem it3 : p1P.inst 0 = (p2P, 0) := by kernel_rfl
theorem it4 : p2P.rem 0 = (p1P, 0) := by kernel_rfl
theorem it5 : p1P.rem 0 = (twoP, 0) := by kernel_rfl
theorem p1_ok : p1P.ok := by
  obtain ⟨z, h, _⟩ := inst_ok two_ok I64z (by rw [it1])
  rw [it1] at h
  exact h.ok
theorem p2_ok : p2P.ok := by
  obtain ⟨z, h, _⟩ := inst_ok p1_ok I64z (by rw [it3])
  rw [it3] at h
  exact h.ok
theorem instA_ok {p : Pd} (h : p.ok) (a : Int) : p.instA a = p.inst a := if_pos h
theorem instA_no {p : Pd} (h : ¬ p.ok) (a : Int) : p.instA a = (p0, 70) := if_neg h
def rgP : Rg := ⟨4, 0, 0, 0, 0, 0, 0, 0, 0⟩
theorem sane_c : ACalls Tryd.prog 7 [] [] (fun o H => o = .ret (.bool true) ∧ H = []) := by
  refine ACalls.up ?_
  refine ACalls.intro (cs := []) (n := 178) Tryd.func7 rfl rfl rfl (by kernel_rfl) rfl ?_
  generalize hpost : (fun (o : Out) (H : Heap) => o = Out.ret (.bool true) ∧ H = []) = post
  obtain ⟨E, hE, s1, s2, s3, s4⟩ : ∃ E, p1P.stepE rgP 1000 = E ∧ E.2 = 1 ∧ E.1.rg.r0 = 5 ∧ E.1.rg.pc = 3 ∧ E.1.x.op = 16 := ⟨_, rfl, by kernel_rfl, by kernel_rfl, by kernel_rfl, by kernel_rfl⟩
  have hwf : rgP.wf := wf0 (by decide)
  simp only [go_sem,Nat.reduceAdd,Nat.reduceSub,Nat.reduceMul,Nat.reduceEqDiff,Nat.reduceLeDiff,Nat.reduceLT,↓reduceIte,Int.reduceToNat,reduceCtorEq,Int.reduceLT,Int.reduceLE,Int.reduceGT,Int.reduceGE,Int.reduceEq,Int.reduceNe,Int.reduceNeg,Int.reduceAdd,Int.reduceSub]
  refine rK_use (enters_of Tryd.func22 rfl (by decide)) (ACalls.pure_use (two_c) rfl rfl) ?_
  simp only [go_sem,Nat.reduceAdd,Nat.reduceSub,Nat.reduceMul,Nat.reduceEqDiff,Nat.reduceLeDiff,Nat.reduceLT,↓reduceIte,Int.reduceToNat,reduceCtorEq,Int.reduceLT,Int.reduceLE,Int.reduceGT,Int.reduceGE,Int.reduceEq,Int.reduceNe,Int.reduceNeg,Int.reduceAdd,Int.reduceSub]
  refine rK_use (enters_of Tryd.func16 rfl (by decide)) (ACalls.pure_use (Install_c twoP 0 I64z) rfl rfl) ?_
  rw [instA_ok two_ok, it1]
  simp only [go_sem,Nat.reduceAdd,Nat.reduceSub,Nat.reduceMul,Nat.reduceEqDiff,Nat.reduceLeDiff,Nat.reduceLT,↓reduceIte,Int.reduceToNat,reduceCtorEq,Int.reduceLT,Int.reduceLE,Int.reduceGT,Int.reduceGE,Int.reduceEq,Int.reduceNe,Int.reduceNeg,Int.reduceAdd,Int.reduceSub,Pd.av]
  refine rK_use (enters_of Tryd.func22 rfl (by decide)) (ACalls.pure_use (two_c) rfl rfl) ?_
  simp only [go_sem,Nat.reduceAdd,Nat.reduceSub,Nat.reduceMul,Nat.reduceEqDiff,Nat.reduceLeDiff,Nat.reduceLT,↓reduceIte,Int.reduceToNat,reduceCtorEq,Int.reduceLT,Int.reduceLE,Int.reduceGT,Int.reduceGE,Int.reduceEq,Int.reduceNe,Int.reduceNeg,Int.reduceAdd,Int.reduceSub]
  refine rK_use (enters_of Tryd.func16 rfl (by decide)) (ACalls.pure_use (Install_c twoP 1 (by unfold I64; omega)) rfl rfl) ?_
  rw [instA_ok two_ok, it2]
  have f1 : p1P.l.map rp = [[iv 0, .int .u8 144, iv 1]] := rfl
  have f2 : (p1P.s.byt.map rb).length = 128 := rfl
  have f3 : (p1P.s.byt.map rb)[0]? = some [.int .u8 204] := rfl
  simp only [go_sem,Nat.reduceAdd,Nat.reduceSub,Nat.reduceMul,Nat.reduceEqDiff,Nat.reduceLeDiff,Nat.reduceLT,↓reduceIte,Int.reduceToNat,reduceCtorEq,Int.reduceLT,Int.reduceLE,Int.reduceGT,Int.reduceGE,Int.reduceEq,Int.reduceNe,Int.reduceNeg,Int.reduceAdd,Int.reduceSub,Pd.av,f1,f2,f3,E71]
  refine rK_use (enters_of Tryd.func16 rfl (by decide)) (ACalls.pure_use (Install_c p1P 0 I64z) rfl rfl) ?_
  rw [instA_ok p1_ok, it3]
  simp only [go_sem,Nat.reduceAdd,Nat.reduceSub,Nat.reduceMul,Nat.reduceEqDiff,Nat.reduceLeDiff,Nat.reduceLT,↓reduceIte,Int.reduceToNat,reduceCtorEq,Int.reduceLT,Int.reduceLE,Int.reduceGT,Int.reduceGE,Int.reduceEq,Int.reduceNe,Int.reduceNeg,Int.reduceAdd,Int.reduceSub,Pd.av]
  refine rK_use (enters_of Tryd.func17 rfl (by decide)) (ACalls.pure_use (Remove_c p2P 0) rfl rfl) ?_
  rw [remA_ok p2_ok, it4]
  simp only [go_sem,Nat.reduceAdd,Nat.reduceSub,Nat.reduceMul,Nat.reduceEqDiff,Nat.reduceLeDiff,Nat.reduceLT,↓reduceIte,Int.reduceToNat,reduceCtorEq,Int.reduceLT,Int.reduceLE,Int.reduceGT,Int.reduceGE,Int.reduceEq,Int.reduceNe,Int.reduceNeg,Int.reduceAdd,Int.reduceSub,Pd.av]
  refine rK_use (enters_of Tryd.func17 rfl (by decide)) (ACalls.pure_use (Remove_c p1P 0) rfl rfl) ?_
  rw [remA_ok p1_ok, it5]
  simp only [go_sem,Nat.reduceAdd,Nat.reduceSub,Nat.reduceMul,Nat.reduceEqDiff,Nat.reduceLeDiff,Nat.reduceLT,↓reduceIte,Int.reduceToNat,reduceCtorEq,Int.reduceLT,Int.reduceLE,Int.reduceGT,Int.reduceGE,Int.reduceEq,Int.reduceNe,Int.reduceNeg,Int.reduceAdd,Int.reduceSub,Pd.av]
  have d1 : dispE ⟨25, 0, 0, -6⟩ 3 100 = (⟨25, 0, 0, -103⟩, 2) := by kernel_rfl
  have d2 : dispE ⟨21, 0, 1, 5⟩ 0 5 = (⟨21, 0, 1, 5⟩, 3) := by kernel_rfl
  have d3 : dispE ⟨27, 0, 0, 10⟩ 6 100 = (⟨27, 0, 0, 10⟩, 3) := by kernel_rfl
  refine rK_use (enters_of Tryd.func8 rfl (by decide)) (ACalls.pure_use (Displace_c ⟨25, 0, 0, -6⟩ (by decide) 3 100) rfl rfl) ?_
  rw [d1]
  simp only [go_sem,Nat.reduceAdd,Nat.reduceSub,Nat.reduceMul,Nat.reduceEqDiff,Nat.reduceLeDiff,Nat.reduceLT,↓reduceIte,Int.reduceToNat,reduceCtorEq,Int.reduceLT,Int.reduceLE,Int.reduceGT,Int.reduceGE,Int.reduceEq,Int.reduceNe,Int.reduceNeg,Int.reduceAdd,Int.reduceSub,Ins.av,Ins.cells]
  refine rK_use (enters_of Tryd.func8 rfl (by decide)) (ACalls.pure_use (Displace_c ⟨21, 0, 1, 5⟩ (by decide) 0 5) rfl rfl) ?_
  rw [d2]
  simp only [go_sem,Nat.reduceAdd,Nat.reduceSub,Nat.reduceMul,Nat.reduceEqDiff,Nat.reduceLeDiff,Nat.reduceLT,↓reduceIte,Int.reduceToNat,reduceCtorEq,Int.reduceLT,Int.reduceLE,Int.reduceGT,Int.reduceGE,Int.reduceEq,Int.reduceNe,Int.reduceNeg,Int.reduceAdd,Int.reduceSub,Ins.av,Ins.cells]
  refine rK_use (enters_of Tryd.func8 rfl (by decide)) (ACalls.pure_use (Displace_c ⟨27, 0, 0, 10⟩ (by decide) 6 100) rfl rfl) ?_
  rw [d3]
  have f4 : twoP.l.map rp = [] := rfl
  have f5 : (twoP.s.byt.map rb).length = 128 := rfl
  have f6 : (twoP.s.byt.map rb)[0]? = some [.int .u8 144] := rfl
  simp only [go_sem,Nat.reduceAdd,Nat.reduceSub,Nat.reduceMul,Nat.reduceEqDiff,Nat.reduceLeDiff,Nat.reduceLT,↓reduceIte,Int.reduceToNat,reduceCtorEq,Int.reduceLT,Int.reduceLE,Int.reduceGT,Int.reduceGE,Int.reduceEq,Int.reduceNe,Int.reduceNeg,Int.reduceAdd,Int.reduceSub,Ins.av,Ins.cells,f4,f5,f6]
  refine rK_use (enters_of Tryd.func12 rfl (by decide)) (ACalls.pure_use (PStep_c p1P p1_ok rgP hwf 1000 (by unfold I64; omega)) rfl rfl) ?_
  rw [hE]
  simp only [go_sem,Nat.reduceAdd,Nat.reduceSub,Nat.reduceMul,Nat.reduceEqDiff,Nat.reduceLeDiff,Nat.reduceLT,↓reduceIte,Int.reduceToNat,reduceCtorEq,Int.reduceLT,Int.reduceLE,Int.reduceGT,Int.reduceGE,Int.reduceEq,Int.reduceNe,Int.reduceNeg,Int.reduceAdd,Int.reduceSub,Eff.av,Eff.cells,Eff.cellsD,s1,s2,s3,s4]
  refine finv rfl ?_ _
  rw [← hpost]
  exact ⟨rfl, rfl⟩
end Go.Proofs.YtfiflailjbmlpaaDoor
set_option maxRecDepth 100000
set_option linter.unusedVariables false
set_option linter.unusedSimpArgs false
namespace Go.Proofs.YtfiflailjbmlpaaDoor
open Go.AM
theorem PatchUndone_c (p : Pd) (a b : Int) (ha : I64 a) (hb : I64 b) : ACalls Tryd.prog 5 [p.av, .agg [iv a, iv b]] [] (fun o H => o = .ret (.bool true) ∧ H = []) := by
  refine ACalls.up ?_
  refine ACalls.intro (cs := []) (n := 176) Tryd.func5 rfl rfl rfl (by kernel_rfl) rfl ?_
  generalize hpost : (fun (o : Out) (H : Heap) => o = Out.ret (.bool true) ∧ H = []) = post
  have fin : ∀ H, Up 0 post (.ret (.bool true)) H := fun H => finv rfl (by rw [← hpost]; exact ⟨rfl, rfl⟩) H
  simp only [go_sem,Nat.reduceAdd,Nat.reduceSub,Nat.reduceMul,Nat.reduceEqDiff,Nat.reduceLeDiff,Nat.reduceLT,↓reduceIte,Int.reduceToNat,reduceCtorEq,Int.reduceLT,Int.reduceLE,Int.reduceGT,Int.reduceGE,Int.reduceEq,Int.reduceNe,Int.reduceNeg,Int.reduceAdd,Int.reduceSub,Pd.av]
  refine rK_use (enters_of Tryd.func7 rfl (by decide)) (ACalls.pure_use (sane_c) rfl rfl) ?_
  simp only [go_sem,Nat.reduceAdd,Nat.reduceSub,Nat.reduceMul,Nat.reduceEqDiff,Nat.reduceLeDiff,Nat.reduceLT,↓reduceIte,Int.reduceToNat,reduceCtorEq,Int.reduceLT,Int.reduceLE,Int.reduceGT,Int.reduceGE,Int.reduceEq,Int.reduceNe,Int.reduceNeg,Int.reduceAdd,Int.reduceSub]
  by_cases h : p.ok
  rotate_left
  · refine rK_use (enters_of Tryd.func13 rfl (by decide)) (ACalls.pure_use (Clean_n p h) rfl rfl) ?_
    simp only [go_sem,Nat.reduceAdd,Nat.reduceSub,Nat.reduceMul,Nat.reduceEqDiff,Nat.reduceLeDiff,Nat.reduceLT,↓reduceIte,Int.reduceToNat,reduceCtorEq,Int.reduceLT,Int.reduceLE,Int.reduceGT,Int.reduceGE,Int.reduceEq,Int.reduceNe,Int.reduceNeg,Int.reduceAdd,Int.reduceSub,Sp.av]
    refine rK_use (enters_of Tryd.func16 rfl (by decide)) (ACalls.pure_use (Install_c p a ha) rfl rfl) ?_
    rw [instA_no h]
    simp only [go_sem,Nat.reduceAdd,Nat.reduceSub,Nat.reduceMul,Nat.reduceEqDiff,Nat.reduceLeDiff,Nat.reduceLT,↓reduceIte,Int.reduceToNat,reduceCtorEq,Int.reduceLT,Int.reduceLE,Int.reduceGT,Int.reduceGE,Int.reduceEq,Int.reduceNe,Int.reduceNeg,Int.reduceAdd,Int.reduceSub,Pd.av]
    exact fin _
  refine rK_use (enters_of Tryd.func13 rfl (by decide)) (ACalls.pure_use (Clean_c p h) rfl rfl) ?_
  simp only [go_sem,Nat.reduceAdd,Nat.reduceSub,Nat.reduceMul,Nat.reduceEqDiff,Nat.reduceLeDiff,Nat.reduceLT,↓reduceIte,Int.reduceToNat,reduceCtorEq,Int.reduceLT,Int.reduceLE,Int.reduceGT,Int.reduceGE,Int.reduceEq,Int.reduceNe,Int.reduceNeg,Int.reduceAdd,Int.reduceSub,Sp.av]
  refine rK_use (enters_of Tryd.func16 rfl (by decide)) (ACalls.pure_use (Install_c p a ha) rfl rfl) ?_
  rw [instA_ok h]
  by_cases h0 : (p.inst a).2 = 0
  rotate_left
  · generalize p.inst a = A at *
    simp only [go_sem,Nat.reduceAdd,Nat.reduceSub,Nat.reduceMul,Nat.reduceEqDiff,Nat.reduceLeDiff,Nat.reduceLT,↓reduceIte,Int.reduceToNat,reduceCtorEq,Int.reduceLT,Int.reduceLE,Int.reduceGT,Int.reduceGE,Int.reduceEq,Int.reduceNe,Int.reduceNeg,Int.reduceAdd,Int.reduceSub,Pd.av,eq_false h0]
    exact fin _
  obtain ⟨z, U, _⟩ := inst_ok h ha h0
  obtain ⟨t1, t2⟩ := undo h ha h0
  have hcm := fun hab hi hj => comm h ha hb hab h0 hi hj
  have hcm2 := fun hab => comm2 h ha (b := b) hab h0
  generalize hA : p.inst a = A at *
  simp only [go_sem,Nat.reduceAdd,Nat.reduceSub,Nat.reduceMul,Nat.reduceEqDiff,Nat.reduceLeDiff,Nat.reduceLT,↓reduceIte,Int.reduceToNat,reduceCtorEq,Int.reduceLT,Int.reduceLE,Int.reduceGT,Int.reduceGE,Int.reduceEq,Int.reduceNe,Int.reduceNeg,Int.reduceAdd,Int.reduceSub,Pd.av,h0]
  refine rK_use (enters_of Tryd.func17 rfl (by decide)) (ACalls.pure_use (Remove_c A.1 a) rfl rfl) ?_
  rw [remA_ok U.ok, t1, t2]
  simp only [go_sem,Nat.reduceAdd,Nat.reduceSub,Nat.reduceMul,Nat.reduceEqDiff,Nat.reduceLeDiff,Nat.reduceLT,↓reduceIte,Int.reduceToNat,reduceCtorEq,Int.reduceLT,Int.reduceLE,Int.reduceGT,Int.reduceGE,Int.reduceEq,Int.reduceNe,Int.reduceNeg,Int.reduceAdd,Int.reduceSub,Pd.av]
  refine rK_use (enters_of Tryd.func13 rfl (by decide)) (ACalls.pure_use (Clean_c A.1 U.ok) rfl rfl) ?_
  rw [U.cl]
  simp only [go_sem,Nat.reduceAdd,Nat.reduceSub,Nat.reduceMul,Nat.reduceEqDiff,Nat.reduceLeDiff,Nat.reduceLT,↓reduceIte,Int.reduceToNat,reduceCtorEq,Int.reduceLT,Int.reduceLE,Int.reduceGT,Int.reduceGE,Int.reduceEq,Int.reduceNe,Int.reduceNeg,Int.reduceAdd,Int.reduceSub,Sp.av]
  refine rK_use (enters_of Tryd.func18 rfl (by decide)) (ACalls.pure_use (psame_c p p h.fit) rfl rfl) ?_
  rw [samePd_self]
  simp only [go_sem,Nat.reduceAdd,Nat.reduceSub,Nat.reduceMul,Nat.reduceEqDiff,Nat.reduceLeDiff,Nat.reduceLT,↓reduceIte,Int.reduceToNat,reduceCtorEq,Int.reduceLT,Int.reduceLE,Int.reduceGT,Int.reduceGE,Int.reduceEq,Int.reduceNe,Int.reduceNeg,Int.reduceAdd,Int.reduceSub]
  have hcf := h.cok
  have hc1 : p.clean.perm.length ≤ 1000000000 := by have := hcf.p32; omega
  have hc2 : p.clean.byt.length ≤ 1000000000 := by have := byt_len hcf; omega
  refine rK_use (enters_of Tryd.func19 rfl (by decide)) (ACalls.pure_use (msame_c p.clean p.clean hc1 hc2) rfl rfl) ?_
  rw [sameS_self]
  simp only [go_sem,Nat.reduceAdd,Nat.reduceSub,Nat.reduceMul,Nat.reduceEqDiff,Nat.reduceLeDiff,Nat.reduceLT,↓reduceIte,Int.reduceToNat,reduceCtorEq,Int.reduceLT,Int.reduceLE,Int.reduceGT,Int.reduceGE,Int.reduceEq,Int.reduceNe,Int.reduceNeg,Int.reduceAdd,Int.reduceSub]
  refine rK_use (enters_of Tryd.func16 rfl (by decide)) (ACalls.pure_use (Install_c A.1 b hb) rfl rfl) ?_
  rw [instA_ok U.ok]
  have hCok := fun hh => inst_ok U.ok hb hh
  generalize A.1.inst b = C at *
  simp only [go_sem,Nat.reduceAdd,Nat.reduceSub,Nat.reduceMul,Nat.reduceEqDiff,Nat.reduceLeDiff,Nat.reduceLT,↓reduceIte,Int.reduceToNat,reduceCtorEq,Int.reduceLT,Int.reduceLE,Int.reduceGT,Int.reduceGE,Int.reduceEq,Int.reduceNe,Int.reduceNeg,Int.reduceAdd,Int.reduceSub,Pd.av]
  refine rK_use (enters_of Tryd.func16 rfl (by decide)) (ACalls.pure_use (Install_c p b hb) rfl rfl) ?_
  rw [instA_ok h]
  have hDok := fun hh => inst_ok h hb hh
  generalize p.inst b = D at *
  simp only [go_sem,Nat.reduceAdd,Nat.reduceSub,Nat.reduceMul,Nat.reduceEqDiff,Nat.reduceLeDiff,Nat.reduceLT,↓reduceIte,Int.reduceToNat,reduceCtorEq,Int.reduceLT,Int.reduceLE,Int.reduceGT,Int.reduceGE,Int.reduceEq,Int.reduceNe,Int.reduceNeg,Int.reduceAdd,Int.reduceSub,Pd.av]
  rcases Decidable.em (C.2 = 0) with c0 | c0
  rotate_left
  · simp only [go_sem,Nat.reduceAdd,Nat.reduceSub,Nat.reduceMul,Nat.reduceEqDiff,Nat.reduceLeDiff,Nat.reduceLT,↓reduceIte,Int.reduceToNat,reduceCtorEq,Int.reduceLT,Int.reduceLE,Int.reduceGT,Int.reduceGE,Int.reduceEq,Int.reduceNe,Int.reduceNeg,Int.reduceAdd,Int.reduceSub,eq_false c0]
    refine rK_use (enters_of Tryd.func17 rfl (by decide)) (ACalls.pure_use (Remove_c A.1 b) rfl rfl) ?_
    rw [remA_ok U.ok]
    simp only [go_sem,Nat.reduceAdd,Nat.reduceSub,Nat.reduceMul,Nat.reduceEqDiff,Nat.reduceLeDiff,Nat.reduceLT,↓reduceIte,Int.reduceToNat,reduceCtorEq,Int.reduceLT,Int.reduceLE,Int.reduceGT,Int.reduceGE,Int.reduceEq,Int.reduceNe,Int.reduceNeg,Int.reduceAdd,Int.reduceSub,Pd.av]
    refine rK_use (enters_of Tryd.func17 rfl (by decide)) (ACalls.pure_use (Remove_c p b) rfl rfl) ?_
    rw [remA_ok h]
    rcases Decidable.em (a = b) with hab | hab
    · simp only [go_sem,Nat.reduceAdd,Nat.reduceSub,Nat.reduceMul,Nat.reduceEqDiff,Nat.reduceLeDiff,Nat.reduceLT,↓reduceIte,Int.reduceToNat,reduceCtorEq,Int.reduceLT,Int.reduceLE,Int.reduceGT,Int.reduceGE,Int.reduceEq,Int.reduceNe,Int.reduceNeg,Int.reduceAdd,Int.reduceSub,Pd.av,eq_true hab]
      exact fin _
    obtain ⟨m1, m2⟩ := hcm2 hab
    rcases Decidable.em ((p.rem b).2 = 0) with n0 | n0
    rotate_left
    · simp only [go_sem,Nat.reduceAdd,Nat.reduceSub,Nat.reduceMul,Nat.reduceEqDiff,Nat.reduceLeDiff,Nat.reduceLT,↓reduceIte,Int.reduceToNat,reduceCtorEq,Int.reduceLT,Int.reduceLE,Int.reduceGT,Int.reduceGE,Int.reduceEq,Int.reduceNe,Int.reduceNeg,Int.reduceAdd,Int.reduceSub,Pd.av,eq_false hab,m1,eq_false n0]
      exact fin _
    obtain ⟨o1, o2, o3, o4⟩ := m2 n0
    obtain ⟨zx, Ux, _⟩ := inst_ok o2 ha o3
    simp only [go_sem,Nat.reduceAdd,Nat.reduceSub,Nat.reduceMul,Nat.reduceEqDiff,Nat.reduceLeDiff,Nat.reduceLT,↓reduceIte,Int.reduceToNat,reduceCtorEq,Int.reduceLT,Int.reduceLE,Int.reduceGT,Int.reduceGE,Int.reduceEq,Int.reduceNe,Int.reduceNeg,Int.reduceAdd,Int.reduceSub,Pd.av,eq_false hab,m1,n0]
    refine rK_use (enters_of Tryd.func16 rfl (by decide)) (ACalls.pure_use (Install_c (p.rem b).1 a ha) rfl rfl) ?_
    rw [instA_ok o2]
    simp only [go_sem,Nat.reduceAdd,Nat.reduceSub,Nat.reduceMul,Nat.reduceEqDiff,Nat.reduceLeDiff,Nat.reduceLT,↓reduceIte,Int.reduceToNat,reduceCtorEq,Int.reduceLT,Int.reduceLE,Int.reduceGT,Int.reduceGE,Int.reduceEq,Int.reduceNe,Int.reduceNeg,Int.reduceAdd,Int.reduceSub,Pd.av,o3]
    refine rK_use (enters_of Tryd.func13 rfl (by decide)) (ACalls.pure_use (Clean_c (p.rem b).1 o2) rfl rfl) ?_
    rw [o1]
    simp only [go_sem,Nat.reduceAdd,Nat.reduceSub,Nat.reduceMul,Nat.reduceEqDiff,Nat.reduceLeDiff,Nat.reduceLT,↓reduceIte,Int.reduceToNat,reduceCtorEq,Int.reduceLT,Int.reduceLE,Int.reduceGT,Int.reduceGE,Int.reduceEq,Int.reduceNe,Int.reduceNeg,Int.reduceAdd,Int.reduceSub,Sp.av]
    refine rK_use (enters_of Tryd.func18 rfl (by decide)) (ACalls.pure_use (psame_c (A.1.rem b).1 ((p.rem b).1.inst a).1 (by rw [o4]; exact Ux.ok.fit)) rfl rfl) ?_
    rw [o4, samePd_self]
    simp only [go_sem,Nat.reduceAdd,Nat.reduceSub,Nat.reduceMul,Nat.reduceEqDiff,Nat.reduceLeDiff,Nat.reduceLT,↓reduceIte,Int.reduceToNat,reduceCtorEq,Int.reduceLT,Int.reduceLE,Int.reduceGT,Int.reduceGE,Int.reduceEq,Int.reduceNe,Int.reduceNeg,Int.reduceAdd,Int.reduceSub]
    refine rK_use (enters_of Tryd.func19 rfl (by decide)) (ACalls.pure_use (msame_c p.clean p.clean hc1 hc2) rfl rfl) ?_
    rw [sameS_self]
    simp only [go_sem,Nat.reduceAdd,Nat.reduceSub,Nat.reduceMul,Nat.reduceEqDiff,Nat.reduceLeDiff,Nat.reduceLT,↓reduceIte,Int.reduceToNat,reduceCtorEq,Int.reduceLT,Int.reduceLE,Int.reduceGT,Int.reduceGE,Int.reduceEq,Int.reduceNe,Int.reduceNeg,Int.reduceAdd,Int.reduceSub]
    exact fin _
  rcases Decidable.em (D.2 = 0) with d0 | d0
  rotate_left
  · simp only [go_sem,Nat.reduceAdd,Nat.reduceSub,Nat.reduceMul,Nat.reduceEqDiff,Nat.reduceLeDiff,Nat.reduceLT,↓reduceIte,Int.reduceToNat,reduceCtorEq,Int.reduceLT,Int.reduceLE,Int.reduceGT,Int.reduceGE,Int.reduceEq,Int.reduceNe,Int.reduceNeg,Int.reduceAdd,Int.reduceSub,eq_true c0,eq_false d0]
    refine rK_use (enters_of Tryd.func17 rfl (by decide)) (ACalls.pure_use (Remove_c A.1 b) rfl rfl) ?_
    rw [remA_ok U.ok]
    simp only [go_sem,Nat.reduceAdd,Nat.reduceSub,Nat.reduceMul,Nat.reduceEqDiff,Nat.reduceLeDiff,Nat.reduceLT,↓reduceIte,Int.reduceToNat,reduceCtorEq,Int.reduceLT,Int.reduceLE,Int.reduceGT,Int.reduceGE,Int.reduceEq,Int.reduceNe,Int.reduceNeg,Int.reduceAdd,Int.reduceSub,Pd.av]
    refine rK_use (enters_of Tryd.func17 rfl (by decide)) (ACalls.pure_use (Remove_c p b) rfl rfl) ?_
    rw [remA_ok h]
    rcases Decidable.em (a = b) with hab | hab
    · simp only [go_sem,Nat.reduceAdd,Nat.reduceSub,Nat.reduceMul,Nat.reduceEqDiff,Nat.reduceLeDiff,Nat.reduceLT,↓reduceIte,Int.reduceToNat,reduceCtorEq,Int.reduceLT,Int.reduceLE,Int.reduceGT,Int.reduceGE,Int.reduceEq,Int.reduceNe,Int.reduceNeg,Int.reduceAdd,Int.reduceSub,Pd.av,eq_true hab]
      exact fin _
    obtain ⟨m1, m2⟩ := hcm2 hab
    rcases Decidable.em ((p.rem b).2 = 0) with n0 | n0
    rotate_left
    · simp only [go_sem,Nat.reduceAdd,Nat.reduceSub,Nat.reduceMul,Nat.reduceEqDiff,Nat.reduceLeDiff,Nat.reduceLT,↓reduceIte,Int.reduceToNat,reduceCtorEq,Int.reduceLT,Int.reduceLE,Int.reduceGT,Int.reduceGE,Int.reduceEq,Int.reduceNe,Int.reduceNeg,Int.reduceAdd,Int.reduceSub,Pd.av,eq_false hab,m1,eq_false n0]
      exact fin _
    obtain ⟨o1, o2, o3, o4⟩ := m2 n0
    obtain ⟨zx, Ux, _⟩ := inst_ok o2 ha o3
    simp only [go_sem,Nat.reduceAdd,Nat.reduceSub,Nat.reduceMul,Nat.reduceEqDiff,Nat.reduceLeDiff,Nat.reduceLT,↓reduceIte,Int.reduceToNat,reduceCtorEq,Int.reduceLT,Int.reduceLE,Int.reduceGT,Int.reduceGE,Int.reduceEq,Int.reduceNe,Int.reduceNeg,Int.reduceAdd,Int.reduceSub,Pd.av,eq_false hab,m1,n0]
    refine rK_use (enters_of Tryd.func16 rfl (by decide)) (ACalls.pure_use (Install_c (p.rem b).1 a ha) rfl rfl) ?_
    rw [instA_ok o2]
    simp only [go_sem,Nat.reduceAdd,Nat.reduceSub,Nat.reduceMul,Nat.reduceEqDiff,Nat.reduceLeDiff,Nat.reduceLT,↓reduceIte,Int.reduceToNat,reduceCtorEq,Int.reduceLT,Int.reduceLE,Int.reduceGT,Int.reduceGE,Int.reduceEq,Int.reduceNe,Int.reduceNeg,Int.reduceAdd,Int.reduceSub,Pd.av,o3]
    refine rK_use (enters_of Tryd.func13 rfl (by decide)) (ACalls.pure_use (Clean_c (p.rem b).1 o2) rfl rfl) ?_
    rw [o1]
    simp only [go_sem,Nat.reduceAdd,Nat.reduceSub,Nat.reduceMul,Nat.reduceEqDiff,Nat.reduceLeDiff,Nat.reduceLT,↓reduceIte,Int.reduceToNat,reduceCtorEq,Int.reduceLT,Int.reduceLE,Int.reduceGT,Int.reduceGE,Int.reduceEq,Int.reduceNe,Int.reduceNeg,Int.reduceAdd,Int.reduceSub,Sp.av]
    refine rK_use (enters_of Tryd.func18 rfl (by decide)) (ACalls.pure_use (psame_c (A.1.rem b).1 ((p.rem b).1.inst a).1 (by rw [o4]; exact Ux.ok.fit)) rfl rfl) ?_
    rw [o4, samePd_self]
    simp only [go_sem,Nat.reduceAdd,Nat.reduceSub,Nat.reduceMul,Nat.reduceEqDiff,Nat.reduceLeDiff,Nat.reduceLT,↓reduceIte,Int.reduceToNat,reduceCtorEq,Int.reduceLT,Int.reduceLE,Int.reduceGT,Int.reduceGE,Int.reduceEq,Int.reduceNe,Int.reduceNeg,Int.reduceAdd,Int.reduceSub]
    refine rK_use (enters_of Tryd.func19 rfl (by decide)) (ACalls.pure_use (msame_c p.clean p.clean hc1 hc2) rfl rfl) ?_
    rw [sameS_self]
    simp only [go_sem,Nat.reduceAdd,Nat.reduceSub,Nat.reduceMul,Nat.reduceEqDiff,Nat.reduceLeDiff,Nat.reduceLT,↓reduceIte,Int.reduceToNat,reduceCtorEq,Int.reduceLT,Int.reduceLE,Int.reduceGT,Int.reduceGE,Int.reduceEq,Int.reduceNe,Int.reduceNeg,Int.reduceAdd,Int.reduceSub]
    exact fin _
  rcases Decidable.em (a = b) with hab | hab
  · simp only [go_sem,Nat.reduceAdd,Nat.reduceSub,Nat.reduceMul,Nat.reduceEqDiff,Nat.reduceLeDiff,Nat.reduceLT,↓reduceIte,Int.reduceToNat,reduceCtorEq,Int.reduceLT,Int.reduceLE,Int.reduceGT,Int.reduceGE,Int.reduceEq,Int.reduceNe,Int.reduceNeg,Int.reduceAdd,Int.reduceSub,eq_true c0,eq_true d0,eq_true hab]
    refine rK_use (enters_of Tryd.func17 rfl (by decide)) (ACalls.pure_use (Remove_c A.1 b) rfl rfl) ?_
    rw [remA_ok U.ok]
    simp only [go_sem,Nat.reduceAdd,Nat.reduceSub,Nat.reduceMul,Nat.reduceEqDiff,Nat.reduceLeDiff,Nat.reduceLT,↓reduceIte,Int.reduceToNat,reduceCtorEq,Int.reduceLT,Int.reduceLE,Int.reduceGT,Int.reduceGE,Int.reduceEq,Int.reduceNe,Int.reduceNeg,Int.reduceAdd,Int.reduceSub,Pd.av]
    refine rK_use (enters_of Tryd.func17 rfl (by decide)) (ACalls.pure_use (Remove_c p b) rfl rfl) ?_
    rw [remA_ok h]
    rcases Decidable.em (a = b) with hab | hab
    · simp only [go_sem,Nat.reduceAdd,Nat.reduceSub,Nat.reduceMul,Nat.reduceEqDiff,Nat.reduceLeDiff,Nat.reduceLT,↓reduceIte,Int.reduceToNat,reduceCtorEq,Int.reduceLT,Int.reduceLE,Int.reduceGT,Int.reduceGE,Int.reduceEq,Int.reduceNe,Int.reduceNeg,Int.reduceAdd,Int.reduceSub,Pd.av,eq_true hab]
      exact fin _
    obtain ⟨m1, m2⟩ := hcm2 hab
    rcases Decidable.em ((p.rem b).2 = 0) with n0 | n0
    rotate_left
    · simp only [go_sem,Nat.reduceAdd,Nat.reduceSub,Nat.reduceMul,Nat.reduceEqDiff,Nat.reduceLeDiff,Nat.reduceLT,↓reduceIte,Int.reduceToNat,reduceCtorEq,Int.reduceLT,Int.reduceLE,Int.reduceGT,Int.reduceGE,Int.reduceEq,Int.reduceNe,Int.reduceNeg,Int.reduceAdd,Int.reduceSub,Pd.av,eq_false hab,m1,eq_false n0]
      exact fin _
    obtain ⟨o1, o2, o3, o4⟩ := m2 n0
    obtain ⟨zx, Ux, _⟩ := inst_ok o2 ha o3
    simp only [go_sem,Nat.reduceAdd,Nat.reduceSub,Nat.reduceMul,Nat.reduceEqDiff,Nat.reduceLeDiff,Nat.reduceLT,↓reduceIte,Int.reduceToNat,reduceCtorEq,Int.reduceLT,Int.reduceLE,Int.reduceGT,Int.reduceGE,Int.reduceEq,Int.reduceNe,Int.reduceNeg,Int.reduceAdd,Int.reduceSub,Pd.av,eq_false hab,m1,n0]
    refine rK_use (enters_of Tryd.func16 rfl (by decide)) (ACalls.pure_use (Install_c (p.rem b).1 a ha) rfl rfl) ?_
    rw [instA_ok o2]
    simp only [go_sem,Nat.reduceAdd,Nat.reduceSub,Nat.reduceMul,Nat.reduceEqDiff,Nat.reduceLeDiff,Nat.reduceLT,↓reduceIte,Int.reduceToNat,reduceCtorEq,Int.reduceLT,Int.reduceLE,Int.reduceGT,Int.reduceGE,Int.reduceEq,Int.reduceNe,Int.reduceNeg,Int.reduceAdd,Int.reduceSub,Pd.av,o3]
    refine rK_use (enters_of Tryd.func13 rfl (by decide)) (ACalls.pure_use (Clean_c (p.rem b).1 o2) rfl rfl) ?_
    rw [o1]
    simp only [go_sem,Nat.reduceAdd,Nat.reduceSub,Nat.reduceMul,Nat.reduceEqDiff,Nat.reduceLeDiff,Nat.reduceLT,↓reduceIte,Int.reduceToNat,reduceCtorEq,Int.reduceLT,Int.reduceLE,Int.reduceGT,Int.reduceGE,Int.reduceEq,Int.reduceNe,Int.reduceNeg,Int.reduceAdd,Int.reduceSub,Sp.av]
    refine rK_use (enters_of Tryd.func18 rfl (by decide)) (ACalls.pure_use (psame_c (A.1.rem b).1 ((p.rem b).1.inst a).1 (by rw [o4]; exact Ux.ok.fit)) rfl rfl) ?_
    rw [o4, samePd_self]
    simp only [go_sem,Nat.reduceAdd,Nat.reduceSub,Nat.reduceMul,Nat.reduceEqDiff,Nat.reduceLeDiff,Nat.reduceLT,↓reduceIte,Int.reduceToNat,reduceCtorEq,Int.reduceLT,Int.reduceLE,Int.reduceGT,Int.reduceGE,Int.reduceEq,Int.reduceNe,Int.reduceNeg,Int.reduceAdd,Int.reduceSub]
    refine rK_use (enters_of Tryd.func19 rfl (by decide)) (ACalls.pure_use (msame_c p.clean p.clean hc1 hc2) rfl rfl) ?_
    rw [sameS_self]
    simp only [go_sem,Nat.reduceAdd,Nat.reduceSub,Nat.reduceMul,Nat.reduceEqDiff,Nat.reduceLeDiff,Nat.reduceLT,↓reduceIte,Int.reduceToNat,reduceCtorEq,Int.reduceLT,Int.reduceLE,Int.reduceGT,Int.reduceGE,Int.reduceEq,Int.reduceNe,Int.reduceNeg,Int.reduceAdd,Int.reduceSub]
    exact fin _
  obtain ⟨zd, Ud, _⟩ := hDok d0
  obtain ⟨zc, Uc, _⟩ := hCok c0
  obtain ⟨w0, w1⟩ := hcm hab c0 d0
  simp only [go_sem,Nat.reduceAdd,Nat.reduceSub,Nat.reduceMul,Nat.reduceEqDiff,Nat.reduceLeDiff,Nat.reduceLT,↓reduceIte,Int.reduceToNat,reduceCtorEq,Int.reduceLT,Int.reduceLE,Int.reduceGT,Int.reduceGE,Int.reduceEq,Int.reduceNe,Int.reduceNeg,Int.reduceAdd,Int.reduceSub,eq_true c0,eq_true d0,eq_false hab]
  refine rK_use (enters_of Tryd.func16 rfl (by decide)) (ACalls.pure_use (Install_c D.1 a ha) rfl rfl) ?_
  rw [instA_ok Ud.ok, ← w1]
  simp only [go_sem,Nat.reduceAdd,Nat.reduceSub,Nat.reduceMul,Nat.reduceEqDiff,Nat.reduceLeDiff,Nat.reduceLT,↓reduceIte,Int.reduceToNat,reduceCtorEq,Int.reduceLT,Int.reduceLE,Int.reduceGT,Int.reduceGE,Int.reduceEq,Int.reduceNe,Int.reduceNeg,Int.reduceAdd,Int.reduceSub,Pd.av,w0]
  refine rK_use (enters_of Tryd.func18 rfl (by decide)) (ACalls.pure_use (psame_c C.1 C.1 Uc.ok.fit) rfl rfl) ?_
  rw [samePd_self]
  simp only [go_sem,Nat.reduceAdd,Nat.reduceSub,Nat.reduceMul,Nat.reduceEqDiff,Nat.reduceLeDiff,Nat.reduceLT,↓reduceIte,Int.reduceToNat,reduceCtorEq,Int.reduceLT,Int.reduceLE,Int.reduceGT,Int.reduceGE,Int.reduceEq,Int.reduceNe,Int.reduceNeg,Int.reduceAdd,Int.reduceSub]
  refine rK_use (enters_of Tryd.func17 rfl (by decide)) (ACalls.pure_use (Remove_c A.1 b) rfl rfl) ?_
  rw [remA_ok U.ok]
  simp only [go_sem,Nat.reduceAdd,Nat.reduceSub,Nat.reduceMul,Nat.reduceEqDiff,Nat.reduceLeDiff,Nat.reduceLT,↓reduceIte,Int.reduceToNat,reduceCtorEq,Int.reduceLT,Int.reduceLE,Int.reduceGT,Int.reduceGE,Int.reduceEq,Int.reduceNe,Int.reduceNeg,Int.reduceAdd,Int.reduceSub,Pd.av]
  refine rK_use (enters_of Tryd.func17 rfl (by decide)) (ACalls.pure_use (Remove_c p b) rfl rfl) ?_
  rw [remA_ok h]
  rcases Decidable.em (a = b) with hab | hab
  · simp only [go_sem,Nat.reduceAdd,Nat.reduceSub,Nat.reduceMul,Nat.reduceEqDiff,Nat.reduceLeDiff,Nat.reduceLT,↓reduceIte,Int.reduceToNat,reduceCtorEq,Int.reduceLT,Int.reduceLE,Int.reduceGT,Int.reduceGE,Int.reduceEq,Int.reduceNe,Int.reduceNeg,Int.reduceAdd,Int.reduceSub,Pd.av,eq_true hab]
    exact fin _
  obtain ⟨m1, m2⟩ := hcm2 hab
  rcases Decidable.em ((p.rem b).2 = 0) with n0 | n0
  rotate_left
  · simp only [go_sem,Nat.reduceAdd,Nat.reduceSub,Nat.reduceMul,Nat.reduceEqDiff,Nat.reduceLeDiff,Nat.reduceLT,↓reduceIte,Int.reduceToNat,reduceCtorEq,Int.reduceLT,Int.reduceLE,Int.reduceGT,Int.reduceGE,Int.reduceEq,Int.reduceNe,Int.reduceNeg,Int.reduceAdd,Int.reduceSub,Pd.av,eq_false hab,m1,eq_false n0]
    exact fin _
  obtain ⟨o1, o2, o3, o4⟩ := m2 n0
  obtain ⟨zx, Ux, _⟩ := inst_ok o2 ha o3
  simp only [go_sem,Nat.reduceAdd,Nat.reduceSub,Nat.reduceMul,Nat.reduceEqDiff,Nat.reduceLeDiff,Nat.reduceLT,↓reduceIte,Int.reduceToNat,reduceCtorEq,Int.reduceLT,Int.reduceLE,Int.reduceGT,Int.reduceGE,Int.reduceEq,Int.reduceNe,Int.reduceNeg,Int.reduceAdd,Int.reduceSub,Pd.av,eq_false hab,m1,n0]
  refine rK_use (enters_of Tryd.func16 rfl (by decide)) (ACalls.pure_use (Install_c (p.rem b).1 a ha) rfl rfl) ?_
  rw [instA_ok o2]
  simp only [go_sem,Nat.reduceAdd,Nat.reduceSub,Nat.reduceMul,Nat.reduceEqDiff,Nat.reduceLeDiff,Nat.reduceLT,↓reduceIte,Int.reduceToNat,reduceCtorEq,Int.reduceLT,Int.reduceLE,Int.reduceGT,Int.reduceGE,Int.reduceEq,Int.reduceNe,Int.reduceNeg,Int.reduceAdd,Int.reduceSub,Pd.av,o3]
  refine rK_use (enters_of Tryd.func13 rfl (by decide)) (ACalls.pure_use (Clean_c (p.rem b).1 o2) rfl rfl) ?_
  rw [o1]
  simp only [go_sem,Nat.reduceAdd,Nat.reduceSub,Nat.reduceMul,Nat.reduceEqDiff,Nat.reduceLeDiff,Nat.reduceLT,↓reduceIte,Int.reduceToNat,reduceCtorEq,Int.reduceLT,Int.reduceLE,Int.reduceGT,Int.reduceGE,Int.reduceEq,Int.reduceNe,Int.reduceNeg,Int.reduceAdd,Int.reduceSub,Sp.av]
  refine rK_use (enters_of Tryd.func18 rfl (by decide)) (ACalls.pure_use (psame_c (A.1.rem b).1 ((p.rem b).1.inst a).1 (by rw [o4]; exact Ux.ok.fit)) rfl rfl) ?_
  rw [o4, samePd_self]
  simp only [go_sem,Nat.reduceAdd,Nat.reduceSub,Nat.reduceMul,Nat.reduceEqDiff,Nat.reduceLeDiff,Nat.reduceLT,↓reduceIte,Int.reduceToNat,reduceCtorEq,Int.reduceLT,Int.reduceLE,Int.reduceGT,Int.reduceGE,Int.reduceEq,Int.reduceNe,Int.reduceNeg,Int.reduceAdd,Int.reduceSub]
  refine rK_use (enters_of Tryd.func19 rfl (by decide)) (ACalls.pure_use (msame_c p.clean p.clean hc1 hc2) rfl rfl) ?_
  rw [sameS_self]
  simp only [go_sem,Nat.reduceAdd,Nat.reduceSub,Nat.reduceMul,Nat.reduceEqDiff,Nat.reduceLeDiff,Nat.reduceLT,↓reduceIte,Int.reduceToNat,reduceCtorEq,Int.reduceLT,Int.reduceLE,Int.reduceGT,Int.reduceGE,Int.reduceEq,Int.reduceNe,Int.reduceNeg,Int.reduceAdd,Int.reduceSub]
  exact fin _
end Go.Proofs.YtfiflailjbmlpaaDoor
set_option maxRecDepth 100000
set_option linter.unusedVariables false
set_option linter.unusedSimpArgs false
namespace Go.Proofs.YtfiflailjbmlpaaDoor
open Go.AM
open Go.ChangeShapes Go.WideShapes Go.ChangeAt Go.RowKit
def kdOf : DataW Unit → List UInt8 × Int
  | .agg [.lit (.string s), .lit (.int _ n)] => (s, n)
  | _ => ([], 0)
def kd : List (List UInt8 × Int) := match (Rows.laid_tapline_insn_kinds : DataW Unit) with
  | .agg ds => ds.map kdOf
  | _ => []
def kdD (x : List UInt8 × Int) : DataW Unit := .agg [.lit (.string x.1), .lit (.int .i64 x.2)]
def kdV (x : List UInt8 × Int) : List Value := [.string ⟨x.1.toArray⟩, .int .i64 x.2]
theorem kd_laid : (Rows.laid_tapline_insn_kinds : DataW Unit) = .agg (kd.map kdD) := rfl
theorem kd_gtab : gtab = [(0, kd.flatMap kdV)] := rfl
theorem kd_len : kd.length = 35 := by kernel_rfl
theorem chunk {α : Type} : ∀ (L : List (List α)) (cs : List α) (m : Nat), (∀ l ∈ L, l.length = m) → cs.length = L.length * m → (∀ (i : Nat) l, L[i]? = some l → (cs.drop (i * m)).take m = l) → cs = L.flatten
  | [], cs, m, _, h, _ => by simpa using h
  | l :: L, cs, m, hl, hn, h => by
    have h0 := h 0 l rfl
    simp at h0
    have ih := chunk L (cs.drop m) m (fun x hx => hl x (List.mem_cons_of_mem _ hx)) (by simp [hn, Nat.add_mul]) (fun i x hx => by
      have := h (i + 1) x (by simpa using hx)
      rw [List.drop_drop, show m + i * m = (i + 1) * m by rw [Nat.add_mul]; omega]
      exact this)
    rw [List.flatten_cons, ← ih, ← h0, List.take_append_drop]
theorem two {α : Type} : ∀ {l : List α}, l.length = 2 → ∃ a b, l = [a, b]
  | [a, b], _ => ⟨a, b, rfl⟩
theorem glok {W : World} (h : laidMetH Tryd.prog [("tapline/insn.kinds", Rows.laid_tapline_insn_kinds)] W) : GlOk (snapAll W) := by
  rw [MakeChecks.laidMetH_plain _ _ _ (by kernel_rfl)] at h
  obtain ⟨ps, ⟨g, t, cs, fuel, p, q, hg, ht, hv, hd, _, _⟩, _, _⟩ := h
  obtain rfl := Option.some.inj ((show Tryd.prog.globalNamed "tapline/insn.kinds" = some 0 by kernel_rfl).symm.trans hg)
  obtain rfl := Option.some.inj ((show (Tryd.prog.globals[0]?).map (·.type) = some 101 by kernel_rfl).symm.trans ht)
  obtain ⟨xs, m, _, ex, hn, hl, hel⟩ := DataW.trod_array Tryd.underlying101 hd
  have c2 : Tryd.prog.cellsOf 77 = 2 := by kernel_rfl
  have c70 : Tryd.prog.cellsOf 101 = 70 := by kernel_rfl
  have e3 : xs.map (·.1) = kd.map kdD := by
    have := (Prod.mk.inj ex).1
    rw [kd_laid] at this
    exact (DataW.agg.inj this).symm
  have hkl := kd_len
  have hcs : cs.toList = (kd.map kdV).flatten := by
    refine chunk _ _ 2 (fun l hl => by obtain ⟨x, _, rfl⟩ := List.mem_map.1 hl; rfl) (by rw [hn, c70, List.length_map, hkl]) fun i l hi => ?_
    rw [List.getElem?_map, Option.map_eq_some_iff] at hi
    obtain ⟨x, hx, rfl⟩ := hi
    have hil := (List.getElem?_eq_some_iff.1 hx).1
    have hE := hel i (by omega)
    rw [c2, List.getElem?_eq_getElem (by omega)] at hE
    have hx1 : xs[i].1 = kdD x := by
      have := congrArg (fun l => l[i]?) e3
      simp only [List.getElem?_map, hx, List.getElem?_eq_getElem (show i < xs.length by omega), Option.map_some, Option.some.injEq] at this
      exact this
    obtain ⟨ys, n, _, ey, hyl, hys, hf⟩ := DataW.trod_struct Tryd.underlying77 hE
    have f0 := hf 0 _ rfl
    have f1 := hf 1 _ rfl
    have h2 : ys.length = 2 := hys
    rw [List.getElem?_eq_getElem (by omega)] at f0 f1
    obtain ⟨s, s1, s2, _⟩ := DataW.trod_string Tryd.underlying9 f0
    obtain ⟨z, z1, z2, _⟩ := DataW.trod_int Tryd.underlying3 f1
    have c9 : Tryd.prog.cellsOf 9 = 1 := by kernel_rfl
    have c3 : Tryd.prog.cellsOf 3 = 1 := by kernel_rfl
    have e4 : ys.map (·.1) = [.lit (.string x.1), .lit (.int .i64 x.2)] := by
      rw [ey] at hx1
      exact DataW.agg.inj hx1
    obtain ⟨y0, y1, rfl⟩ := two h2
    simp only [List.map_cons, List.map_nil, List.cons.injEq, and_true, List.getElem_cons_zero, List.getElem_cons_succ] at e4
    have s2' : y0 = _ := s2
    have z2' : y1 = _ := z2
    rw [s2', z2'] at e4
    simp only [DataW.lit.injEq, Lit.string.injEq, Lit.int.injEq, true_and] at e4
    obtain ⟨es, ez⟩ := e4
    have hs : s = ⟨x.1.toArray⟩ := by
      rw [← es]
    rw [c2] at hyl
    generalize (cs.toList.drop (i * 2)).take 2 = B at *
    obtain ⟨u, v, rfl⟩ := two hyl
    have s1' : List.take (Tryd.prog.cellsOf 9) [u, v] = [.string s] := s1
    have z1' : List.take (Tryd.prog.cellsOf 3) [v] = [.int .i64 z] := z1
    rw [c9] at s1'
    rw [c3] at z1'
    simp only [List.take_succ_cons, List.take_zero, List.cons.injEq, and_true] at s1' z1'
    rw [s1', z1', hs, ez]
    rfl
  have hfl : kd.flatMap kdV = cs.toList := by rw [hcs, List.flatMap]
  intro y hy k v hk
  rw [kd_gtab, List.mem_singleton] at hy
  subst hy
  have hk' : cs.toList[k]? = some v := by rw [← hfl]; exact hk
  have hc := World.var?_cell hg hv k
  rw [show cs[k]? = some v by simpa using hk'] at hc
  unfold scell snapAll
  unfold World.cell? at hc
  split at hc
  · rename_i e
    rw [e]
    exact hc
  · cases hc
theorem wf_i64 {n : Int} (h : (Lit.int .i64 n).wf = true) : I64 n := by
  simp only [Lit.wf, Bool.and_eq_true, decide_eq_true_eq] at h
  have h1 : IntKind.i64.min = -9223372036854775808 := by decide
  have h2 : IntKind.i64.max = 9223372036854775807 := by decide
  rw [h1, h2] at h
  exact h
theorem wf_u8 {n : Int} (h : (Lit.int .u8 n).wf = true) : ∃ b : UInt8, n = (b.toNat : Int) := by
  simp only [Lit.wf, Bool.and_eq_true, decide_eq_true_eq] at h
  have h1 : IntKind.u8.min = 0 := by decide
  have h2 : IntKind.u8.max = 255 := by decide
  rw [h1, h2] at h
  refine ⟨UInt8.ofNat n.toNat, ?_⟩
  rw [UInt8.toNat_ofNat']
  omega
theorem sh_int {xs : List AV} (h : Sh Tryd.prog 3 xs) : ∃ n, wkL xs = r1 n ∧ I64 n := by
  obtain ⟨n, rfl, hw⟩ := h.int_inv Tryd.underlying3
  exact ⟨n, rfl, wf_i64 hw⟩
theorem sh_i64 {xs : List AV} (h : Sh Tryd.prog 2 xs) : ∃ n, wkL xs = r1 n ∧ I64 n := by
  obtain ⟨n, rfl, hw⟩ := h.int_inv Tryd.underlying2
  exact ⟨n, rfl, wf_i64 hw⟩
theorem sh_u8 {xs : List AV} (h : Sh Tryd.prog 5 xs) : ∃ b : UInt8, wkL xs = rb b := by
  obtain ⟨n, rfl, hw⟩ := h.int_inv Tryd.underlying5
  obtain ⟨b, rfl⟩ := wf_u8 hw
  exact ⟨b, rfl⟩
theorem cells_int : Tryd.prog.cellsOf 3 = 1 := by kernel_rfl
theorem cells_u8 : Tryd.prog.cellsOf 5 = 1 := by kernel_rfl
theorem wkL_app : ∀ (a b : List AV), wkL (a ++ b) = wkL a ++ wkL b
  | [], b => rfl
  | x :: a, b => by simp [wkL, wkL_app a b]
theorem sh_space {xs : List AV} (h : Sh Tryd.prog 27 xs) : ∃ s : Sp, wkL xs = [.view false 1 (s.perm.map r1), .view false 1 (s.byt.map rb)] := by
  obtain ⟨xss, rfl, hn, hp⟩ := h.struct_inv Tryd.underlying27
  obtain ⟨a, b, rfl⟩ := two hn
  obtain ⟨f1, r1', h1, _, hr1⟩ := (hp 0 _ a rfl rfl).slice_inv Tryd.underlying24
  obtain ⟨f2, r2', h2, _, hr2⟩ := (hp 1 _ b rfl rfl).slice_inv Tryd.underlying25
  obtain ⟨l1, hl1⟩ := Sh.rows (f := r1) (fun row hrow => (sh_int hrow).imp fun n hn => hn.1) hr1
  obtain ⟨l2, hl2⟩ := Sh.rows (f := rb) (fun row hrow => sh_u8 hrow) hr2
  subst h1 h2
  refine ⟨⟨l1, l2⟩, ?_⟩
  simp [AV.wk, wkL_app, wkL, hl1, hl2, cells_int, cells_u8]
theorem flat3 {xss : List (List AV)} (h : xss.length = 3) : ∃ a b c, xss = [a, b, c] := by
  match xss, h with
  | [a, b, c], _ => exact ⟨a, b, c, rfl⟩
theorem read_agg {H : Type} {enc : TypeId × Value → H} {P : Program} {w : World} {t : TypeId} {fs : Array Field} {v : Value} {d : DataW H} {p : List MemPlace} {base : Nat} (m : Nat) (ht : P.underlying t = some (.struct fs)) (hp : plainB P m t = true)
    (hv : Value.okWide P w .any base t v) (h : DataW.Trod enc P w 0 (fun _ => true) true t v d p) : ∃ xs, VR (snapAll w) noEnv (.agg (wkL xs)) v ∧ Sh P t xs := by
  unfold Value.okWide at hv
  rw [ht] at hv
  obtain ⟨cs, rfl, _⟩ := hv
  obtain ⟨n, hn⟩ := h
  obtain ⟨xs, h1, h2⟩ := read_trod m t hp n _ _ hn
  have hlen : xs.length = cs.size := by rw [h1.1]; simp [Value.cells]
  refine ⟨xs, ?_, h2⟩
  have := VR.wk (VR.agg (sn := snapAll w) noEnv xs cs hlen.symm fun k x y hx hy => (h1.2 k x y hx (by simpa [Value.cells] using hy)).1)
  simpa [AV.wk] using this
section
variable {H : Type} {enc : TypeId × Value → H} {w : World} {v : Value} {d : DataW H} {p : List MemPlace} {base : Nat}
end
theorem lout : laidOutB Tryd.prog = true := by kernel_rfl
theorem own : ownKnob Tryd.prog.godebug = none := by kernel_rfl
theorem rd_ok {l : List TypeId} (h : (l.all fun t => Tryd.prog.readableRec t && decide (t < Tryd.prog.types.size)) = true) : ∀ t ∈ l, Tryd.prog.readableRec t = true ∧ t < Tryd.prog.types.size := fun t ht => by
  have := List.all_eq_true.1 h t ht
  simpa using this
end Go.Proofs.YtfiflailjbmlpaaDoor
set_option maxRecDepth 100000
set_option linter.unusedVariables false
set_option linter.unusedSimpArgs false
namespace Go.Proofs.YtfiflailjbmlpaaDoor
open Go.AM
open Go.ChangeShapes Go.WideShapes Go.ChangeAt Go.RowKit
theorem read_arr {H : Type} {enc : TypeId × Value → H} {P : Program} {w : World} {t : TypeId} {k : Nat} {e : TypeId} {v : Value} {d : DataW H} {p : List MemPlace} {base : Nat} (m : Nat) (ht : P.underlying t = some (.array k e)) (hp : plainB P m t = true)
    (hv : Value.okWide P w .any base t v) (h : DataW.Trod enc P w 0 (fun _ => true) true t v d p) : ∃ xs, VR (snapAll w) noEnv (.agg (wkL xs)) v ∧ Sh P t xs := by
  unfold Value.okWide at hv
  rw [ht] at hv
  obtain ⟨cs, rfl, _⟩ := hv
  obtain ⟨n, hn⟩ := h
  obtain ⟨xs, h1, h2⟩ := read_trod m t hp n _ _ hn
  have hlen : xs.length = cs.size := by rw [h1.1]; simp [Value.cells]
  refine ⟨xs, ?_, h2⟩
  have := VR.wk (VR.agg (sn := snapAll w) noEnv xs cs hlen.symm fun k x y hx hy => (h1.2 k x y hx (by simpa [Value.cells] using hy)).1)
  simpa [AV.wk] using this
section
variable {H : Type} {enc : TypeId × Value → H} {w : World} {v : Value} {d : DataW H} {p : List MemPlace} {base : Nat}
end
end Go.Proofs.YtfiflailjbmlpaaDoor
set_option maxRecDepth 100000
set_option linter.unusedVariables false
set_option linter.unusedSimpArgs false
namespace Go.Proofs.YtfiflailjbmlpaaDoor
open Go.AM
open Go.ChangeShapes Go.WideShapes Go.ChangeAt Go.RowKit
theorem cells_patch : Tryd.prog.cellsOf 71 = 3 := by kernel_rfl
theorem sh_patch {xs : List AV} (h : Sh Tryd.prog 71 xs) : ∃ x : Pt, wkL xs = rp x := by
  obtain ⟨xss, rfl, hn, hp⟩ := h.struct_inv Tryd.underlying71
  obtain ⟨a, b, c, rfl⟩ := flat3 hn
  obtain ⟨n0, h0, _⟩ := sh_i64 (hp 0 _ a rfl rfl)
  obtain ⟨n1, h1⟩ := sh_u8 (hp 1 _ b rfl rfl)
  obtain ⟨n2, h2, _⟩ := sh_int (hp 2 _ c rfl rfl)
  exact ⟨⟨n0, n1, n2⟩, by simp [wkL_app, h0, h1, h2]⟩
theorem sh_patched {xs : List AV} (h : Sh Tryd.prog 51 xs) : ∃ p : Pd, wkL xs = [.view false 1 (p.s.perm.map r1), .view false 1 (p.s.byt.map rb), .view false 3 (p.l.map rp)] := by
  obtain ⟨xss, rfl, hn, hp⟩ := h.struct_inv Tryd.underlying51
  obtain ⟨a, b, rfl⟩ := two hn
  obtain ⟨s, h0⟩ := sh_space (hp 0 _ a rfl rfl)
  obtain ⟨f1, r1', h1, _, hr1⟩ := (hp 1 _ b rfl rfl).slice_inv Tryd.underlying49
  obtain ⟨l1, hl1⟩ := Sh.rows (f := rp) (fun row hrow => sh_patch hrow) hr1
  subst h1
  refine ⟨⟨s, l1⟩, ?_⟩
  simp [AV.wk, wkL_app, wkL, h0, hl1, cells_patch]
section
variable {H : Type} {enc : TypeId × Value → H} {w : World} {v : Value} {d : DataW H} {p : List MemPlace} {base : Nat}
theorem read_patched (hv : Value.okWide Tryd.prog w .any base 51 v) (h : DataW.Trod enc Tryd.prog w 0 (fun _ => true) true 51 v d p) : ∃ p : Pd, VR (snapAll w) noEnv p.av v := by
  obtain ⟨xs, h1, h2⟩ := read_agg 5 Tryd.underlying51 (by kernel_rfl) hv h
  obtain ⟨x, hx⟩ := sh_patched h2
  exact ⟨x, by rw [hx] at h1; exact h1⟩
theorem read_i64s (hv : Value.okWide Tryd.prog w .any base 59 v) (h : DataW.Trod enc Tryd.prog w 0 (fun _ => true) true 59 v d p) : ∃ a b : Int, VR (snapAll w) noEnv (.agg [iv a, iv b]) v ∧ I64 a ∧ I64 b := by
  obtain ⟨xs, h1, h2⟩ := read_arr 5 Tryd.underlying59 (by kernel_rfl) hv h
  obtain ⟨yss, rfl, hm, hq⟩ := h2.array_inv Tryd.underlying59
  obtain ⟨a0, a1, rfl⟩ := two hm
  obtain ⟨b0, h3, w3⟩ := sh_i64 (hq a0 (by simp))
  obtain ⟨b1, h4, w4⟩ := sh_i64 (hq a1 (by simp))
  refine ⟨b0, b1, ?_, w3, w4⟩
  simpa [wkL_app, h3, h4] using h1
end
end Go.Proofs.YtfiflailjbmlpaaDoor
set_option maxRecDepth 100000
set_option linter.unusedVariables false
set_option linter.unusedSimpArgs false
namespace Go.Proofs.YtfiflailjbmlpaaDoor.patchUndone
open Go.AM
open Go.ChangeShapes Go.WideShapes Go.ChangeAt Go.RowKit
abbrev laid : List (String × DataW Unit) := [("tapline/insn.kinds", Rows.laid_tapline_insn_kinds)]
theorem lifted (os : Os) (started : os.Started) (H : Type) (enc : TypeId × Value → H) :
    ReturnsInHanded {} Tryd.checked os 5 .any (fun w args => (Rows.patchUndoneSpec.pre enc Tryd.prog Tryd.f5 Rows.patchUndoneRow.domain false w args ∧ laidMetH Tryd.prog laid w) ∧ sizedMet enc Tryd.prog Tryd.f5 (OpenSpec.ofChange Rows.patchUndoneSpec) false w args)
      (Rows.patchUndoneSpec.post enc Tryd.prog Tryd.f5 false true false false) := by
  refine returnsInHanded_of_change_and (C := Tryd.checked) (X := fun w _ => laidMetH Tryd.prog laid w) (fun _ _ _ hh h => h.of_heap hh) own started (by kernel_rfl) Tryd.func5
    (ChangeSpec.witness_shaped (enc := enc) (C := Tryd.checked) (os := os) (X := fun w _ => laidMetH Tryd.prog laid w) false (World.laidAll Tryd.prog os laid) #[.agg #[.slice none 0 0, .slice none 0 0, .slice none 0 0], .agg #[.int .i64 0, .int .i64 0]] 8 (World.laidAll_os _ _ _)
      (World.shaped_of_ZipB (by kernel_rfl) (by kernel_rfl)) (by kernel_rfl) (by kernel_rfl) (by kernel_rfl)
      (by rw [MakeChecks.laidMetH_plain _ _ _ (by kernel_rfl)]; exact laidMet_laidAll _ (by kernel_rfl) (by kernel_rfl))) ?_
  intro W base args ds gs before hval0 hW hcnd _ hL _
  have hval : ∀ (j : Nat) t v, Tryd.f5.params[j]? = some t → args[j]? = some v → Value.okWide Tryd.prog W .any base t v := hval0
  have hW' := hW
  obtain ⟨p, q, hA0, hV, rfl, hfz, hnd⟩ := hW'
  have hA : DataW.TrodAll enc Tryd.prog W 0 (fun _ => true) true Tryd.f5.params.toList args.toList ds p := hA0
  rw [Tryd.params5] at hA hval
  obtain ⟨v0, vs0, d0, ds0, p0, q0, hargs, rfl, rfl, h0, t0⟩ := trodAll_cons hA
  obtain ⟨v1, vs1, d1, ds1, p1, q1, rfl, rfl, rfl, h1, t1⟩ := trodAll_cons t0
  obtain ⟨rfl, rfl, rfl⟩ := trodAll_nil t1
  obtain rfl : args = #[v0, v1] := by cases args; simp_all
  obtain ⟨p0, g0⟩ := read_patched (hval 0 _ v0 rfl rfl) h0
  obtain ⟨a1, b1, g1, w1, u1⟩ := read_i64s (hval 1 _ v1 rfl rfl) h1
  refine law_contract (PatchUndone_c p0 a1 b1 w1 u1) hW rfl rfl Tryd.underlying4 rfl lout ?_ (glok hL) (vrs_cons g0 (vrs_cons g1 vrs_nil))
  rw [Tryd.params5]
  exact rd_ok (by kernel_rfl)
theorem over : Rows.patchUndoneRow.holds Tryd.pinned (OpenSpec.ofChange Rows.patchUndoneSpec) :=
  OpenClaim.holds_of_wide 5 Tryd.f5 rfl rfl rfl rfl rfl rfl rfl ⟨rfl, rfl, rfl, rfl, rfl⟩ rfl rfl rfl rfl rfl (by kernel_rfl) Tryd.func5 (by kernel_rfl)
    (of_decide_eq_true (by kernel_rfl)) (by unfold Func.isWrapper; first | (rw [if_pos (by decide +kernel)]; kernel_rfl) | (rw [if_neg (by decide +kernel)]; exact ⟨rfl, rfl⟩))
    (fun os started H enc _ => lifted os started H enc)
end Go.Proofs.YtfiflailjbmlpaaDoor.patchUndone
namespace Go.Proofs.YtfiflailjbmlpaaDoor
open Go.ChangeShapes Go.WideShapes Go.ChangeAt Go.RowKit
theorem PatchUndone_holds : Rows.PatchUndoneCardSaid :=
  Claim7.holds_tied_plain_at .later [] [.data] true (true, "2c726f383cc30c43ddb1f04427053069b3e5b520bce5a22d6b9a869f223802b3") true patchUndone.over (fun _ h => by cases h) (by kernel_rfl) (fun _ h => by cases h) patchUndone_row_tie rfl ⟨rfl, rfl⟩ (by kernel_rfl) rfl
    (fun f fn hf hfn => by
      obtain rfl : f = 5 := Option.some.inj ((show Tryd.prog.funcNamed "tapline/taplinelaw07.PatchUndone" = some 5 by kernel_rfl).symm.trans hf) |>.symm
      obtain rfl : fn = Tryd.f5 := (Option.some.inj (Tryd.func5.symm.trans hfn)).symm
      exact ⟨by kernel_rfl, fun j t ht => by
        rw [Tryd.params5] at ht
        have hm : t ∈ [51, 59] := by simpa using Array.mem_of_getElem? ht
        have hall : ([51, 59].all fun u => !Tryd.prog.wantsStandIn u) = true := by kernel_rfl
        exact (show Tryd.prog.wantsStandIn t = false by simpa using List.all_eq_true.1 hall t hm)⟩)
    (by kernel_rfl)
end Go.Proofs.YtfiflailjbmlpaaDoor
