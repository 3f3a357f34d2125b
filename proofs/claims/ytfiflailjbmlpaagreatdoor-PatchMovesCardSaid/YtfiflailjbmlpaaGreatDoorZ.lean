/- patch: PatchMoves, as the card states it. No condition. -/
import Derived.Test.YtfiflailjbmlpaaGreatDoorZ6
import Derived.Test.YtfiflailjbmlpaaGreatDoorTie
import Derived.Test.YtfiflailjbmlpaaGreatDoorCards
import Derived.ProofKit
import Derived.OpenShut
import Derived.LaidMore
import Derived.Lay
import Derived.SevenTiedAt
import Derived.Stop.Joined
set_option maxRecDepth 100000
set_option linter.unusedVariables false
set_option linter.unusedSimpArgs false
namespace Go.Proofs.YtfiflailjbmlpaaGreatDoor
open Go.AM
theorem pdN_leL (n : Int) : LeL (pdN ++ [iv n]) (p0.cells ++ [iv n]) := .cons (.nil true false 0 1 (by simp)) (.cons (.nil true false 0 1 (by simp)) (.cons (.nil true false 0 3 (by simp)) (.cons (.refl _) .nil)))
theorem up_pd3 {post : CQ} {q : Pd} {e : Int} (np nb nl : Nat) (zs xs ys : List (List AV)) (hz : zs.take np = q.s.perm.map r1) (hx : xs.take nb = q.s.byt.map rb) (hy : ys.take nl = q.l.map rp) (hzl : np ≤ zs.length) (hxl : nb ≤ xs.length) (hyl : nl ≤ ys.length)
    (hp0 : ∀ row ∈ zs, ltL 0 row = true) (hp : ∀ row ∈ xs, ltL 0 row = true) (hp2 : ∀ row ∈ ys, ltL 0 row = true) (h : post (.ret (.agg (q.cells ++ [iv e]))) []) :
    Up 0 post (.ret (.agg [.sl 0 0 np none, .sl 1 0 nb none, .sl 2 0 nl none, iv e])) [.rows 1 zs, .rows 1 xs, .rows 3 ys] := by
  refine .fz 0 1 zs rfl (fun row hr x hx => ltL_mem (hp0 row hr) x hx) (by simp [Out.fzOk, AV.fzOk, fzOkL, hzl]) ?_ ?_
  · simp only [List.set_cons_zero, List.forall_mem_cons]
    refine ⟨trivial, bfzOk_pure hp, bfzOk_pure hp2, by simp⟩
  simp only [List.set_cons_zero, List.map_cons, List.map_nil, bfz_pure hp, bfz_pure hp2, Out.fz, AV.fz, fzL, if_true, if_false, Nat.reduceEqDiff, reduceIte, List.drop_zero, hz]
  refine up_two 1 1 xs 2 3 ys (by decide) rfl rfl hp hp2 ?_ ?_ ?_ ?_
  · simp [Out.fzOk, AV.fzOk, fzOkL, hxl]
  · simp [Out.fzOk, Out.fz, AV.fz, fzL, AV.fzOk, fzOkL, hyl]
  · simp [Out.fz, AV.fz, fzL, Out.lt, AV.lt, ltL]
  · simp only [Out.fz, AV.fz, fzL, if_true, if_false, Nat.reduceEqDiff, reduceIte, List.drop_zero, hx, hy]
    exact h
theorem rPApply_c (p : Pd) (e : Eff) (he : I64 e.pos) : ACalls Tryz.prog 37 [p.av, e.av] [] (fun o H => o = .ret (.agg ((p.appA e).1.cells ++ [iv (p.appA e).2])) ∧ H = []) := by
  refine ACalls.up ?_
  refine ACalls.intro (cs := []) (n := 28) Tryz.func37 rfl rfl rfl (by kernel_rfl) rfl ?_
  generalize hpost : (fun (o : Out) (H : Heap) => o = Out.ret (.agg ((p.appA e).1.cells ++ [iv (p.appA e).2])) ∧ H = []) = post
  have finN : ∀ n H, p.appA e = (p0, n) → Up 0 post (.ret (.agg (pdN ++ [iv n]))) H := fun n H h => .le (.ret (.agg (pdN_leL n))) (LeH.refl _) (finv rfl (by rw [← hpost, h]; exact ⟨rfl, rfl⟩) H)
  simp only [go_sem,Nat.reduceAdd,Nat.reduceSub,Nat.reduceMul,Nat.reduceEqDiff,Nat.reduceLeDiff,Nat.reduceLT,↓reduceIte,Int.reduceToNat,reduceCtorEq,Int.reduceLT,Int.reduceLE,Int.reduceGT,Int.reduceGE,Int.reduceEq,Int.reduceNe,Int.reduceNeg,Int.reduceAdd,Int.reduceSub,Pd.av,Eff.av,Eff.cells,Eff.cellsD]
  refine rK_use (enters_of Tryz.func26 rfl (by decide)) (ACalls.pure_use (rpcheck_c p) rfl rfl) ?_
  by_cases h : p.ok
  rotate_left
  · rw [Pd.chk_no h]
    simp only [go_sem,Nat.reduceAdd,Nat.reduceSub,Nat.reduceMul,Nat.reduceEqDiff,Nat.reduceLeDiff,Nat.reduceLT,↓reduceIte,Int.reduceToNat,reduceCtorEq,Int.reduceLT,Int.reduceLE,Int.reduceGT,Int.reduceGE,Int.reduceEq,Int.reduceNe,Int.reduceNeg,Int.reduceAdd,Int.reduceSub]
    exact finN 70 _ (appA_no h e)
  rw [appA_ok h, Pd.app] at finN
  rw [appA_ok h, Pd.app] at hpost
  rw [Pd.chk_ok h]
  simp only [go_sem,Nat.reduceAdd,Nat.reduceSub,Nat.reduceMul,Nat.reduceEqDiff,Nat.reduceLeDiff,Nat.reduceLT,↓reduceIte,Int.reduceToNat,reduceCtorEq,Int.reduceLT,Int.reduceLE,Int.reduceGT,Int.reduceGE,Int.reduceEq,Int.reduceNe,Int.reduceNeg,Int.reduceAdd,Int.reduceSub]
  refine rK_use (enters_of Tryz.func77 rfl (by decide)) (ACalls.pure_use (rApply_c p.s h.sok e he) rfl rfl) ?_
  generalize hR : applyR p.s e = R at *
  rcases Decidable.em (R.2 = 0) with r0 | r0
  rotate_left
  · rw [if_neg r0] at finN
    simp only [go_sem,Nat.reduceAdd,Nat.reduceSub,Nat.reduceMul,Nat.reduceEqDiff,Nat.reduceLeDiff,Nat.reduceLT,↓reduceIte,Int.reduceToNat,reduceCtorEq,Int.reduceLT,Int.reduceLE,Int.reduceGT,Int.reduceGE,Int.reduceEq,Int.reduceNe,Int.reduceNeg,Int.reduceAdd,Int.reduceSub,Sp.av,eq_false r0]
    exact finN R.2 _ rfl
  rw [if_pos r0] at hpost
  simp only [go_sem,Nat.reduceAdd,Nat.reduceSub,Nat.reduceMul,Nat.reduceEqDiff,Nat.reduceLeDiff,Nat.reduceLT,↓reduceIte,Int.reduceToNat,reduceCtorEq,Int.reduceLT,Int.reduceLE,Int.reduceGT,Int.reduceGE,Int.reduceEq,Int.reduceNe,Int.reduceNeg,Int.reduceAdd,Int.reduceSub,Sp.av,eq_true r0]
  refine rK_use (enters_of Tryz.func60 rfl (by decide)) (rcopy_u p h.fit _) ?_
  simp only [go_sem,Nat.reduceAdd,Nat.reduceSub,Nat.reduceMul,Nat.reduceEqDiff,Nat.reduceLeDiff,Nat.reduceLT,↓reduceIte,Int.reduceToNat,reduceCtorEq,Int.reduceLT,Int.reduceLE,Int.reduceGT,Int.reduceGE,Int.reduceEq,Int.reduceNe,Int.reduceNeg,Int.reduceAdd,Int.reduceSub]
  refine up_one 6 3 (p.l.map rp) rfl (rp_lt0 _) (by simp [Out.fzOk, AV.fzOk, fzOkL]) (by simp [Out.fz, AV.fz, fzL, Out.lt, AV.lt, ltL]) ?_
  rw [← hpost]
  have e4 : (p.l.map rp).take p.l.length = p.l.map rp := List.take_of_length_le (by simp)
  simp [Out.fz, AV.fz, fzL, e4, Pd.cells]
theorem rRebase_c (p : Pd) (s : Sp) : ACalls Tryz.prog 38 [p.av, s.av] [] (fun o H => o = .ret (.agg ((p.rebA s).1.cells ++ [iv (p.rebA s).2])) ∧ H = []) := by
  refine ACalls.up ?_
  refine ACalls.intro (cs := []) (n := 60) Tryz.func38 rfl rfl rfl (by kernel_rfl) rfl ?_
  generalize hpost : (fun (o : Out) (H : Heap) => o = Out.ret (.agg ((p.rebA s).1.cells ++ [iv (p.rebA s).2])) ∧ H = []) = post
  have finN : ∀ n H, p.rebA s = (p0, n) → Up 0 post (.ret (.agg (pdN ++ [iv n]))) H := fun n H h => .le (.ret (.agg (pdN_leL n))) (LeH.refl _) (finv rfl (by rw [← hpost, h]; exact ⟨rfl, rfl⟩) H)
  simp only [go_sem,Nat.reduceAdd,Nat.reduceSub,Nat.reduceMul,Nat.reduceEqDiff,Nat.reduceLeDiff,Nat.reduceLT,↓reduceIte,Int.reduceToNat,reduceCtorEq,Int.reduceLT,Int.reduceLE,Int.reduceGT,Int.reduceGE,Int.reduceEq,Int.reduceNe,Int.reduceNeg,Int.reduceAdd,Int.reduceSub,Pd.av,Sp.av]
  refine rK_use (enters_of Tryz.func26 rfl (by decide)) (ACalls.pure_use (rpcheck_c p) rfl rfl) ?_
  by_cases h : p.ok
  rotate_left
  · rw [Pd.chk_no h]
    simp only [go_sem,Nat.reduceAdd,Nat.reduceSub,Nat.reduceMul,Nat.reduceEqDiff,Nat.reduceLeDiff,Nat.reduceLT,↓reduceIte,Int.reduceToNat,reduceCtorEq,Int.reduceLT,Int.reduceLE,Int.reduceGT,Int.reduceGE,Int.reduceEq,Int.reduceNe,Int.reduceNeg,Int.reduceAdd,Int.reduceSub]
    exact finN 70 _ (rebA_no h s)
  rw [rebA_ok h, Pd.reb] at finN hpost
  rw [Pd.chk_ok h]
  simp only [go_sem,Nat.reduceAdd,Nat.reduceSub,Nat.reduceMul,Nat.reduceEqDiff,Nat.reduceLeDiff,Nat.reduceLT,↓reduceIte,Int.reduceToNat,reduceCtorEq,Int.reduceLT,Int.reduceLE,Int.reduceGT,Int.reduceGE,Int.reduceEq,Int.reduceNe,Int.reduceNeg,Int.reduceAdd,Int.reduceSub]
  refine rK_use (enters_of Tryz.func64 rfl (by decide)) (ACalls.pure_use (rcheck_c s) rfl rfl) ?_
  by_cases hs : s.ok
  rotate_left
  · rw [if_neg hs] at finN
    rw [Sp.chk, if_neg hs]
    simp only [go_sem,Nat.reduceAdd,Nat.reduceSub,Nat.reduceMul,Nat.reduceEqDiff,Nat.reduceLeDiff,Nat.reduceLT,↓reduceIte,Int.reduceToNat,reduceCtorEq,Int.reduceLT,Int.reduceLE,Int.reduceGT,Int.reduceGE,Int.reduceEq,Int.reduceNe,Int.reduceNeg,Int.reduceAdd,Int.reduceSub]
    exact finN 30 _ rfl
  rw [if_pos hs] at finN hpost
  rw [Sp.chk_ok hs]
  have hl := h.len
  have hbl := byt_len hs
  have hps := hs.p32
  simp only [go_sem,Nat.reduceAdd,Nat.reduceSub,Nat.reduceMul,Nat.reduceEqDiff,Nat.reduceLeDiff,Nat.reduceLT,↓reduceIte,Int.reduceToNat,reduceCtorEq,Int.reduceLT,Int.reduceLE,Int.reduceGT,Int.reduceGE,Int.reduceEq,Int.reduceNe,Int.reduceNeg,Int.reduceAdd,Int.reduceSub]
  refine rK_use (enters_of Tryz.func60 rfl (by decide)) (rcopy_u p h.fit _) ?_
  simp only [go_sem,Nat.reduceAdd,Nat.reduceSub,Nat.reduceMul,Nat.reduceEqDiff,Nat.reduceLeDiff,Nat.reduceLT,↓reduceIte,Int.reduceToNat,reduceCtorEq,Int.reduceLT,Int.reduceLE,Int.reduceGT,Int.reduceGE,Int.reduceEq,Int.reduceNe,Int.reduceNeg,Int.reduceAdd,Int.reduceSub]
  refine rK_use (enters_of Tryz.func78 rfl (by decide)) (rcopy3_u s (by omega) (by omega) _) ?_
  simp only [go_sem,Nat.reduceAdd,Nat.reduceSub,Nat.reduceMul,Nat.reduceEqDiff,Nat.reduceLeDiff,Nat.reduceLT,↓reduceIte,Int.reduceToNat,reduceCtorEq,Int.reduceLT,Int.reduceLE,Int.reduceGT,Int.reduceGE,Int.reduceEq,Int.reduceNe,Int.reduceNeg,Int.reduceAdd,Int.reduceSub]
  obtain ⟨M, hM⟩ : ∃ M, M = p.l.map (Pt.reb s) := ⟨_, rfl⟩
  refine loop_fam (fun i : Nat => (((((Ch.nil.put 2 (.ptr 0 0 0)).put 3 (.ptr 1 0 0)).put 4 (.ptr 2 0 0)).put 6 (.ptr 6 0 0)).put 7 (iv i)))
    (fun i => [.rows 3 [[.view false 1 (p.s.perm.map r1), .view false 1 (p.s.byt.map rb), .view false 3 (p.l.map rp)]], .rows 2 [[.view false 1 (s.perm.map r1), .view false 1 (s.byt.map rb)]], .rows 4 [pdN ++ [iv 0]], .rows 1 (p.s.perm.map r1), .rows 1 (p.s.byt.map rb), .rows 3 ((rebL s p.l i).map rp), .rows 3 [[.sl 7 0 s.perm.length none, .sl 8 0 s.byt.length none, .sl 5 0 p.l.length none]], .rows 1 (s.perm.map r1), .rows 1 ((putL b204 (M.take i) s).byt.map rb)])
    (fun i => p.l.length - i) (fun i => i ≤ p.l.length ∧ ∀ x ∈ p.l.take i, (stand s x.at_).e = 0) 0 (by kernel_rfl) ⟨Nat.zero_le _, by simp⟩ (Wk.slots' rfl (by simp [wkS, Ch.get])) ?_
  rintro i ⟨hi, ha⟩ K hK
  simp only [go_sem,Nat.reduceAdd,Nat.reduceSub,Nat.reduceMul,Nat.reduceEqDiff,Nat.reduceLeDiff,Nat.reduceLT,↓reduceIte,Int.reduceToNat,reduceCtorEq,Int.reduceLT,Int.reduceLE,Int.reduceGT,Int.reduceGE,Int.reduceEq,Int.reduceNe,Int.reduceNeg,Int.reduceAdd,Int.reduceSub,pdN,List.length_map]
  refine condD_dec (fun hc => ?_) (fun hc => ?_)
  · obtain ⟨x, hx⟩ := at_lt (l := p.l) (i := i) (by omega)
    have hmem := List.mem_of_getElem? hx
    have e1 : iw .i64 ((i : Int) + 1) = ((i + 1 : Nat) : Int) := by rw [iw64] <;> omega
    have g1 : (0 : Int) ≤ i ∧ (i : Int) < p.l.length := ⟨by omega, by omega⟩
    have g2 : i < p.l.length := by omega
    have hxl := rebL_at (s := s) hx
    have hrl := rebL_len s p.l i
    simp only [go_sem,Nat.reduceAdd,Nat.reduceSub,Nat.reduceMul,Nat.reduceEqDiff,Nat.reduceLeDiff,Nat.reduceLT,↓reduceIte,Int.reduceToNat,reduceCtorEq,Int.reduceLT,Int.reduceLE,Int.reduceGT,Int.reduceGE,Int.reduceEq,Int.reduceNe,Int.reduceNeg,Int.reduceAdd,Int.reduceSub,g1,g2,hx,hxl,hrl,List.length_map,List.getElem?_map]
    refine rK_use (enters_of Tryz.func45 rfl (by decide)) (ACalls.pure_use (stands_c s hs x.at_) rfl (by simp [Dec.rav, AV.lt, ltL])) ?_
    rcases Decidable.em ((stand s x.at_).e = 0) with hst | hst
    rotate_left
    · rw [if_neg (fun h => hst (of_decide_eq_true (List.all_eq_true.1 h x hmem)))] at finN
      simp only [go_sem,Nat.reduceAdd,Nat.reduceSub,Nat.reduceMul,Nat.reduceEqDiff,Nat.reduceLeDiff,Nat.reduceLT,↓reduceIte,Int.reduceToNat,reduceCtorEq,Int.reduceLT,Int.reduceLE,Int.reduceGT,Int.reduceGE,Int.reduceEq,Int.reduceNe,Int.reduceNeg,Int.reduceAdd,Int.reduceSub,eq_false hst,Dec.rav,Ins.cells]
      exact finN 71 _ rfl
    obtain ⟨b0, b1, _, d, _, _, hd⟩ := stand_at (h.i64 hmem) (by rw [hst]; decide)
    have g3 : (0 : Int) ≤ x.at_ ∧ x.at_ < (s.byt.length : Int) := ⟨b0, b1⟩
    have g5 : x.at_.toNat < s.byt.length := by omega
    have hMx : M[i]? = some (x.reb s) := by rw [hM, List.getElem?_map, hx]; rfl
    have hset : ((rebL s p.l i).map rp).set i [iv x.at_, .int .u8 (d.toNat : Int), iv x.n] = (rebL s p.l (i + 1)).map rp := by
      rw [← rebL_set hx, List.map_set, Pt.reb, hd, Option.getD_some]
    have hl2 : (putL b204 (M.take i) s).byt.length = s.byt.length := putL_len ..
    obtain ⟨z, hz⟩ := at_lt (l := (putL b204 (M.take i) s).byt) (i := x.at_.toNat) (by omega)
    have hset2 : ((putL b204 (M.take i) s).byt.map rb).set x.at_.toNat [.int .u8 204] = (putL b204 (M.take (i + 1)) s).byt.map rb := by
      rw [putL_succ hMx, Sp.put, List.map_set]; rfl
    simp only [go_sem,Nat.reduceAdd,Nat.reduceSub,Nat.reduceMul,Nat.reduceEqDiff,Nat.reduceLeDiff,Nat.reduceLT,↓reduceIte,Int.reduceToNat,reduceCtorEq,Int.reduceLT,Int.reduceLE,Int.reduceGT,Int.reduceGE,Int.reduceEq,Int.reduceNe,Int.reduceNeg,Int.reduceAdd,Int.reduceSub,eq_true hst,Dec.rav,Ins.cells]
    refine draw [.qu 0 0, .qu 0 0, .qu 0 0, .qu 0 0, .qu 0 0, .qu 0 0, .qu 0 0, .qu 0 0, .qu 0 0, .qu 0 0, .mn 0] (by kernel_rfl) (by kernel_rfl) ?_
    simp only [go_sem,Nat.reduceAdd,Nat.reduceSub,Nat.reduceMul,Nat.reduceEqDiff,Nat.reduceLeDiff,Nat.reduceLT,↓reduceIte,Int.reduceToNat,reduceCtorEq,Int.reduceLT,Int.reduceLE,Int.reduceGT,Int.reduceGE,Int.reduceEq,Int.reduceNe,Int.reduceNeg,Int.reduceAdd,Int.reduceSub,g1,g2,g3,g5,hxl,hrl,hd,hset,hl2,hz,hset2,List.length_map,List.getElem?_map,e1]
    refine hK (i + 1) _ _ ⟨by omega, fun y hy => ?_⟩ (by omega) (Wk.slots' rfl (by simp [wkS, Ch.get]))
    rw [List.take_add_one, hx, List.mem_append] at hy
    rcases hy with hy | hy
    · exact ha y hy
    · simp at hy; subst hy; exact hst
  · simp only [go_sem,Nat.reduceAdd,Nat.reduceSub,Nat.reduceMul,Nat.reduceEqDiff,Nat.reduceLeDiff,Nat.reduceLT,↓reduceIte,Int.reduceToNat,reduceCtorEq,Int.reduceLT,Int.reduceLE,Int.reduceGT,Int.reduceGE,Int.reduceEq,Int.reduceNe,Int.reduceNeg,Int.reduceAdd,Int.reduceSub]
    have hin : i = p.l.length := by omega
    subst hin
    rw [List.take_length] at ha
    rw [rebL_all, ← hM, List.take_of_length_le (by rw [hM]; simp)]
    rw [if_pos (List.all_eq_true.2 fun x hx => decide_eq_true (ha x hx)), ← hM] at hpost
    refine .pick (o' := .ret (.agg [.sl 0 0 s.perm.length none, .sl 1 0 s.byt.length none, .sl 2 0 p.l.length none, iv 0])) (H' := [.rows 1 (s.perm.map r1), .rows 1 ((putL b204 M s).byt.map rb), .rows 3 (M.map rp)]) [7, 8, 5] (by simp) rfl ?_ rfl ?_
    · simp [Blk.ren, Function.comp, AV.ren]
    have hMl : M.length = p.l.length := by rw [hM, List.length_map]
    refine up_pd3 (q := ⟨putL b204 M s, M⟩) _ _ _ _ _ _ ?_ ?_ ?_ (by simp) (by simp [putL_len]) (by simp [hMl]) (r1_lt0 _) (rb_lt0 _) (rp_lt0 _) ?_
    · rw [List.take_of_length_le (by simp), putL_perm]
    · exact List.take_of_length_le (by simp [putL_len])
    · exact List.take_of_length_le (by simp [hMl])
    · rw [← hpost]
      exact ⟨rfl, rfl⟩
end Go.Proofs.YtfiflailjbmlpaaGreatDoor
set_option maxRecDepth 100000
set_option linter.unusedVariables false
set_option linter.unusedSimpArgs false
namespace Go.Proofs.YtfiflailjbmlpaaGreatDoor
open Go.AM
theorem q0_room : p0.room := ⟨by decide, by decide, by decide⟩
theorem appA_room (p : Pd) (e : Eff) (he : I64 e.pos) : (p.appA e).1.room := by
  by_cases h : p.ok
  · rw [appA_ok h]
    rcases Decidable.em ((p.app e).2 = 0) with h0 | h0
    · exact ((app_law h he).2 h0).1.fit.room
    · have : (p.app e).1 = p0 := by
        unfold Pd.app at h0 ⊢
        split at h0
        · exact absurd rfl h0
        · rename_i hn; rw [if_neg hn]
      rw [this]
      exact q0_room
  · rw [appA_no h]
    exact q0_room
theorem rebA_room (p : Pd) (s : Sp) : (p.rebA s).1.room := by
  by_cases h : p.ok
  · rw [rebA_ok h]
    rcases Decidable.em ((p.reb s).2 = 0) with h0 | h0
    · exact (reb_law h h0).1.fit.room
    · have : (p.reb s).1 = p0 := by
        unfold Pd.reb at h0 ⊢
        split
        · rename_i hs
          rw [if_pos hs] at h0
          split
          · rename_i ha
            rw [if_pos ha] at h0
            exact absurd rfl h0
          · rfl
        · rfl
      rw [this]
      exact q0_room
  · rw [rebA_no h]
    exact q0_room
theorem PatchMoves_c (p : Pd) (hp : p.room) (e : Eff) (he : I64 e.pos) (o : Pd) (ho : o.room) : ACalls Tryz.prog 9 [p.av, e.av, o.av] [] (fun o H => o = .ret (.bool true) ∧ H = []) := by
  refine ACalls.up ?_
  refine ACalls.intro (cs := []) (n := 74) Tryz.func9 rfl rfl rfl (by kernel_rfl) rfl ?_
  generalize hpost : (fun (o : Out) (H : Heap) => o = Out.ret (.bool true) ∧ H = []) = post
  have fin : ∀ H, Up 0 post (.ret (.bool true)) H := fun H => finv rfl (by rw [← hpost]; exact ⟨rfl, rfl⟩) H
  simp only [go_sem,Nat.reduceAdd,Nat.reduceSub,Nat.reduceMul,Nat.reduceEqDiff,Nat.reduceLeDiff,Nat.reduceLT,↓reduceIte,Int.reduceToNat,reduceCtorEq,Int.reduceLT,Int.reduceLE,Int.reduceGT,Int.reduceGE,Int.reduceEq,Int.reduceNe,Int.reduceNeg,Int.reduceAdd,Int.reduceSub,Pd.av,Eff.av,Eff.cells,Eff.cellsD]
  refine rK_use (enters_of Tryz.func10 rfl (by decide)) (ACalls.pure_use (sane_c) rfl rfl) ?_
  simp only [go_sem,Nat.reduceAdd,Nat.reduceSub,Nat.reduceMul,Nat.reduceEqDiff,Nat.reduceLeDiff,Nat.reduceLT,↓reduceIte,Int.reduceToNat,reduceCtorEq,Int.reduceLT,Int.reduceLE,Int.reduceGT,Int.reduceGE,Int.reduceEq,Int.reduceNe,Int.reduceNeg,Int.reduceAdd,Int.reduceSub]
  refine rK_use (enters_of Tryz.func33 rfl (by decide)) (ACalls.pure_use (PApply_c p e he) rfl rfl) ?_
  have hr1 := rPApply_c p e he
  have hm1 := appA_room p e he
  generalize p.appA e = A at *
  simp only [go_sem,Nat.reduceAdd,Nat.reduceSub,Nat.reduceMul,Nat.reduceEqDiff,Nat.reduceLeDiff,Nat.reduceLT,↓reduceIte,Int.reduceToNat,reduceCtorEq,Int.reduceLT,Int.reduceLE,Int.reduceGT,Int.reduceGE,Int.reduceEq,Int.reduceNe,Int.reduceNeg,Int.reduceAdd,Int.reduceSub,Pd.av]
  refine rK_use (enters_of Tryz.func30 rfl (by decide)) (ACalls.pure_use (Rebase_c p o.s) rfl rfl) ?_
  have hr2 := rRebase_c p o.s
  have hm2 := rebA_room p o.s
  generalize p.rebA o.s = B at *
  simp only [go_sem,Nat.reduceAdd,Nat.reduceSub,Nat.reduceMul,Nat.reduceEqDiff,Nat.reduceLeDiff,Nat.reduceLT,↓reduceIte,Int.reduceToNat,reduceCtorEq,Int.reduceLT,Int.reduceLE,Int.reduceGT,Int.reduceGE,Int.reduceEq,Int.reduceNe,Int.reduceNeg,Int.reduceAdd,Int.reduceSub,Pd.av]
  refine rK_use (enters_of Tryz.func37 rfl (by decide)) (ACalls.pure_use hr1 rfl rfl) ?_
  simp only [go_sem,Nat.reduceAdd,Nat.reduceSub,Nat.reduceMul,Nat.reduceEqDiff,Nat.reduceLeDiff,Nat.reduceLT,↓reduceIte,Int.reduceToNat,reduceCtorEq,Int.reduceLT,Int.reduceLE,Int.reduceGT,Int.reduceGE,Int.reduceEq,Int.reduceNe,Int.reduceNeg,Int.reduceAdd,Int.reduceSub,Pd.cells]
  refine rK_use (enters_of Tryz.func38 rfl (by decide)) (ACalls.pure_use hr2 rfl rfl) ?_
  simp only [go_sem,Nat.reduceAdd,Nat.reduceSub,Nat.reduceMul,Nat.reduceEqDiff,Nat.reduceLeDiff,Nat.reduceLT,↓reduceIte,Int.reduceToNat,reduceCtorEq,Int.reduceLT,Int.reduceLE,Int.reduceGT,Int.reduceGE,Int.reduceEq,Int.reduceNe,Int.reduceNeg,Int.reduceAdd,Int.reduceSub,Pd.cells]
  refine draw [.qu 0 0, .qu 0 0, .qu 0 0, .qu 0 0, .qu 0 0, .qu 0 0, .qu 0 0, .qu 0 0, .qu 0 0, .qu 0 0, .qu 0 0, .qu 0 0, .qu 0 0, .qu 0 0, .qu 0 0, .qu 0 0, .qu 0 0, .mn 0, .qu 1 1, .qu 1 1, .qu 1 1, .qu 1 1, .qu 1 1, .mn 1, .qu 2 2, .qu 2 2, .qu 2 2, .qu 2 2, .mn 2, .rd 2 3, .rd 2 3, .mn 3, .qu 4 4, .qu 4 4, .qu 4 4, .qu 4 4, .qu 4 4, .mn 4, .qu 5 5, .qu 5 5] (by kernel_rfl) (by kernel_rfl) ?_
  simp only [go_sem,Nat.reduceAdd,Nat.reduceSub,Nat.reduceMul,Nat.reduceEqDiff,Nat.reduceLeDiff,Nat.reduceLT,↓reduceIte,Int.reduceToNat,reduceCtorEq,Int.reduceLT,Int.reduceLE,Int.reduceGT,Int.reduceGE,Int.reduceEq,Int.reduceNe,Int.reduceNeg,Int.reduceAdd,Int.reduceSub]
  refine dM_call (enters_of Tryz.func27 rfl (by decide)) (ACalls.pure_use (rpsame_c A.1 A.1 hm1) rfl rfl) ?_
  rw [samePd_self]
  simp only [go_sem,Nat.reduceAdd,Nat.reduceSub,Nat.reduceMul,Nat.reduceEqDiff,Nat.reduceLeDiff,Nat.reduceLT,↓reduceIte,Int.reduceToNat,reduceCtorEq,Int.reduceLT,Int.reduceLE,Int.reduceGT,Int.reduceGE,Int.reduceEq,Int.reduceNe,Int.reduceNeg,Int.reduceAdd,Int.reduceSub]
  refine dM_call (enters_of Tryz.func27 rfl (by decide)) (ACalls.pure_use (rpsame_c B.1 B.1 hm2) rfl rfl) ?_
  rw [samePd_self]
  simp only [go_sem,Nat.reduceAdd,Nat.reduceSub,Nat.reduceMul,Nat.reduceEqDiff,Nat.reduceLeDiff,Nat.reduceLT,↓reduceIte,Int.reduceToNat,reduceCtorEq,Int.reduceLT,Int.reduceLE,Int.reduceGT,Int.reduceGE,Int.reduceEq,Int.reduceNe,Int.reduceNeg,Int.reduceAdd,Int.reduceSub]
  have q1 := psame_c p o hp
  have q2 := rpsame_c p o hp
  generalize samePd p o = v at q1 q2
  refine dM_call (enters_of Tryz.func31 rfl (by decide)) (ACalls.pure_use q1 rfl rfl) ?_
  simp only [go_sem,Nat.reduceAdd,Nat.reduceSub,Nat.reduceMul,Nat.reduceEqDiff,Nat.reduceLeDiff,Nat.reduceLT,↓reduceIte,Int.reduceToNat,reduceCtorEq,Int.reduceLT,Int.reduceLE,Int.reduceGT,Int.reduceGE,Int.reduceEq,Int.reduceNe,Int.reduceNeg,Int.reduceAdd,Int.reduceSub]
  refine dM_call (enters_of Tryz.func27 rfl (by decide)) (ACalls.pure_use q2 rfl rfl) ?_
  simp only [go_sem,Nat.reduceAdd,Nat.reduceSub,Nat.reduceMul,Nat.reduceEqDiff,Nat.reduceLeDiff,Nat.reduceLT,↓reduceIte,Int.reduceToNat,reduceCtorEq,Int.reduceLT,Int.reduceLE,Int.reduceGT,Int.reduceGE,Int.reduceEq,Int.reduceNe,Int.reduceNeg,Int.reduceAdd,Int.reduceSub,beq_self_eq_true]
  refine dM_call (enters_of Tryz.func31 rfl (by decide)) (ACalls.pure_use (psame_c p p hp) rfl rfl) ?_
  rw [samePd_self]
  simp only [go_sem,Nat.reduceAdd,Nat.reduceSub,Nat.reduceMul,Nat.reduceEqDiff,Nat.reduceLeDiff,Nat.reduceLT,↓reduceIte,Int.reduceToNat,reduceCtorEq,Int.reduceLT,Int.reduceLE,Int.reduceGT,Int.reduceGE,Int.reduceEq,Int.reduceNe,Int.reduceNeg,Int.reduceAdd,Int.reduceSub]
  exact fin _
end Go.Proofs.YtfiflailjbmlpaaGreatDoor
set_option maxRecDepth 100000
set_option linter.unusedVariables false
set_option linter.unusedSimpArgs false
namespace Go.Proofs.YtfiflailjbmlpaaGreatDoor
open Go.AM
open Go.ChangeShapes Go.WideShapes Go.ChangeAt Go.RowKit
def kdOf : DataW Unit → List UInt8 × Int
  | .agg [.lit (.string s), .lit (.int _ n)] => (s, n)
  | _ => ([], 0)
def kd : List (List UInt8 × Int) := match (Rows.laid_tapline_insn_kinds : DataW Unit) with
  | .agg ds => ds.map kdOf
  | _ => []
def kdD (x : List UInt8 × Int) : DataW Unit := .agg [.lit (.string x.1), .lit (.int .i64 x.2)]
def kdV (x : List UInt8 × Int) : List Value := [.string ⟨x.1.toArray⟩, .int .i64 x.2]
theorem kd_laid : (Rows.laid_tapline_insn_kinds : DataW Unit) = .agg (kd.map kdD) := rfl
theorem kd_gtab : gtab = [(0, kd.flatMap kdV)] := rfl
theorem kd_len : kd.length = 35 := by kernel_rfl
theorem chunk {α : Type} : ∀ (L : List (List α)) (cs : List α) (m : Nat), (∀ l ∈ L, l.length = m) → cs.length = L.length * m → (∀ (i : Nat) l, L[i]? = some l → (cs.drop (i * m)).take m = l) → cs = L.flatten
  | [], cs, m, _, h, _ => by simpa using h
  | l :: L, cs, m, hl, hn, h => by
    have h0 := h 0 l rfl
    simp at h0
    have ih := chunk L (cs.drop m) m (fun x hx => hl x (List.mem_cons_of_mem _ hx)) (by simp [hn, Nat.add_mul]) (fun i x hx => by
      have := h (i + 1) x (by simpa using hx)
      rw [List.drop_drop, show m + i * m = (i + 1) * m by rw [Nat.add_mul]; omega]
      exact this)
    rw [List.flatten_cons, ← ih, ← h0, List.take_append_drop]
theorem two {α : Type} : ∀ {l : List α}, l.length = 2 → ∃ a b, l = [a, b]
  | [a, b], _ => ⟨a, b, rfl⟩
theorem glok {W : World} (h : laidMetH Tryz.prog [("tapline/insn.kinds", Rows.laid_tapline_insn_kinds)] W) : GlOk (snapAll W) := by
  rw [MakeChecks.laidMetH_plain _ _ _ (by kernel_rfl)] at h
  obtain ⟨ps, ⟨g, t, cs, fuel, p, q, hg, ht, hv, hd, _, _⟩, _, _⟩ := h
  obtain rfl := Option.some.inj ((show Tryz.prog.globalNamed "tapline/insn.kinds" = some 0 by kernel_rfl).symm.trans hg)
  obtain rfl := Option.some.inj ((show (Tryz.prog.globals[0]?).map (·.type) = some 174 by kernel_rfl).symm.trans ht)
  obtain ⟨xs, m, _, ex, hn, hl, hel⟩ := DataW.trod_array Tryz.underlying174 hd
  have c2 : Tryz.prog.cellsOf 156 = 2 := by kernel_rfl
  have c70 : Tryz.prog.cellsOf 174 = 70 := by kernel_rfl
  have e3 : xs.map (·.1) = kd.map kdD := by
    have := (Prod.mk.inj ex).1
    rw [kd_laid] at this
    exact (DataW.agg.inj this).symm
  have hkl := kd_len
  have hcs : cs.toList = (kd.map kdV).flatten := by
    refine chunk _ _ 2 (fun l hl => by obtain ⟨x, _, rfl⟩ := List.mem_map.1 hl; rfl) (by rw [hn, c70, List.length_map, hkl]) fun i l hi => ?_
    rw [List.getElem?_map, Option.map_eq_some_iff] at hi
    obtain ⟨x, hx, rfl⟩ := hi
    have hil := (List.getElem?_eq_some_iff.1 hx).1
    have hE := hel i (by omega)
    rw [c2, List.getElem?_eq_getElem (by omega)] at hE
    have hx1 : xs[i].1 = kdD x := by
      have := congrArg (fun l => l[i]?) e3
      simp only [List.getElem?_map, hx, List.getElem?_eq_getElem (show i < xs.length by omega), Option.map_some, Option.some.injEq] at this
      exact this
    obtain ⟨ys, n, _, ey, hyl, hys, hf⟩ := DataW.trod_struct Tryz.underlying156 hE
    have f0 := hf 0 _ rfl
    have f1 := hf 1 _ rfl
    have h2 : ys.length = 2 := hys
    rw [List.getElem?_eq_getElem (by omega)] at f0 f1
    obtain ⟨s, s1, s2, _⟩ := DataW.trod_string Tryz.underlying9 f0
    obtain ⟨z, z1, z2, _⟩ := DataW.trod_int Tryz.underlying3 f1
    have c9 : Tryz.prog.cellsOf 9 = 1 := by kernel_rfl
    have c3 : Tryz.prog.cellsOf 3 = 1 := by kernel_rfl
    have e4 : ys.map (·.1) = [.lit (.string x.1), .lit (.int .i64 x.2)] := by
      rw [ey] at hx1
      exact DataW.agg.inj hx1
    obtain ⟨y0, y1, rfl⟩ := two h2
    simp only [List.map_cons, List.map_nil, List.cons.injEq, and_true, List.getElem_cons_zero, List.getElem_cons_succ] at e4
    have s2' : y0 = _ := s2
    have z2' : y1 = _ := z2
    rw [s2', z2'] at e4
    simp only [DataW.lit.injEq, Lit.string.injEq, Lit.int.injEq, true_and] at e4
    obtain ⟨es, ez⟩ := e4
    have hs : s = ⟨x.1.toArray⟩ := by
      rw [← es]
    rw [c2] at hyl
    generalize (cs.toList.drop (i * 2)).take 2 = B at *
    obtain ⟨u, v, rfl⟩ := two hyl
    have s1' : List.take (Tryz.prog.cellsOf 9) [u, v] = [.string s] := s1
    have z1' : List.take (Tryz.prog.cellsOf 3) [v] = [.int .i64 z] := z1
    rw [c9] at s1'
    rw [c3] at z1'
    simp only [List.take_succ_cons, List.take_zero, List.cons.injEq, and_true] at s1' z1'
    rw [s1', z1', hs, ez]
    rfl
  have hfl : kd.flatMap kdV = cs.toList := by rw [hcs, List.flatMap]
  intro y hy k v hk
  rw [kd_gtab, List.mem_singleton] at hy
  subst hy
  have hk' : cs.toList[k]? = some v := by rw [← hfl]; exact hk
  have hc := World.var?_cell hg hv k
  rw [show cs[k]? = some v by simpa using hk'] at hc
  unfold scell snapAll
  unfold World.cell? at hc
  split at hc
  · rename_i e
    rw [e]
    exact hc
  · cases hc
theorem wf_i64 {n : Int} (h : (Lit.int .i64 n).wf = true) : I64 n := by
  simp only [Lit.wf, Bool.and_eq_true, decide_eq_true_eq] at h
  have h1 : IntKind.i64.min = -9223372036854775808 := by decide
  have h2 : IntKind.i64.max = 9223372036854775807 := by decide
  rw [h1, h2] at h
  exact h
theorem wf_u8 {n : Int} (h : (Lit.int .u8 n).wf = true) : ∃ b : UInt8, n = (b.toNat : Int) := by
  simp only [Lit.wf, Bool.and_eq_true, decide_eq_true_eq] at h
  have h1 : IntKind.u8.min = 0 := by decide
  have h2 : IntKind.u8.max = 255 := by decide
  rw [h1, h2] at h
  refine ⟨UInt8.ofNat n.toNat, ?_⟩
  rw [UInt8.toNat_ofNat']
  omega
theorem sh_int {xs : List AV} (h : Sh Tryz.prog 3 xs) : ∃ n, wkL xs = r1 n ∧ I64 n := by
  obtain ⟨n, rfl, hw⟩ := h.int_inv Tryz.underlying3
  exact ⟨n, rfl, wf_i64 hw⟩
theorem sh_i64 {xs : List AV} (h : Sh Tryz.prog 2 xs) : ∃ n, wkL xs = r1 n ∧ I64 n := by
  obtain ⟨n, rfl, hw⟩ := h.int_inv Tryz.underlying2
  exact ⟨n, rfl, wf_i64 hw⟩
theorem sh_u8 {xs : List AV} (h : Sh Tryz.prog 5 xs) : ∃ b : UInt8, wkL xs = rb b := by
  obtain ⟨n, rfl, hw⟩ := h.int_inv Tryz.underlying5
  obtain ⟨b, rfl⟩ := wf_u8 hw
  exact ⟨b, rfl⟩
theorem cells_int : Tryz.prog.cellsOf 3 = 1 := by kernel_rfl
theorem cells_u8 : Tryz.prog.cellsOf 5 = 1 := by kernel_rfl
theorem wkL_app : ∀ (a b : List AV), wkL (a ++ b) = wkL a ++ wkL b
  | [], b => rfl
  | x :: a, b => by simp [wkL, wkL_app a b]
theorem flat3 {xss : List (List AV)} (h : xss.length = 3) : ∃ a b c, xss = [a, b, c] := by
  match xss, h with
  | [a, b, c], _ => exact ⟨a, b, c, rfl⟩
theorem flat4 {xss : List (List AV)} (h : xss.length = 4) : ∃ a b c d, xss = [a, b, c, d] := by
  match xss, h with
  | [a, b, c, d], _ => exact ⟨a, b, c, d, rfl⟩
theorem flat8 {xss : List (List AV)} (h : xss.length = 8) : ∃ a b c d e f g i, xss = [a, b, c, d, e, f, g, i] := by
  match xss, h with
  | [a, b, c, d, e, f, g, i], _ => exact ⟨a, b, c, d, e, f, g, i, rfl⟩
theorem sh_insn {xs : List AV} (h : Sh Tryz.prog 38 xs) : ∃ x : Ins, wkL xs = x.cells := by
  obtain ⟨xss, rfl, hn, hp⟩ := h.struct_inv Tryz.underlying38
  obtain ⟨a, b, c, d, rfl⟩ := flat4 hn
  obtain ⟨n0, h0, _⟩ := sh_int (hp 0 _ a rfl rfl)
  obtain ⟨n1, h1, _⟩ := sh_int (hp 1 _ b rfl rfl)
  obtain ⟨n2, h2, _⟩ := sh_int (hp 2 _ c rfl rfl)
  obtain ⟨n3, h3, _⟩ := sh_i64 (hp 3 _ d rfl rfl)
  exact ⟨⟨n0, n1, n2, n3⟩, by simp [wkL_app, h0, h1, h2, h3, Ins.cells]⟩
theorem sh_regs {xs : List AV} (h : Sh Tryz.prog 31 xs) : ∃ r : Rg, wkL xs = r.cells ∧ r.wf := by
  obtain ⟨xss, rfl, hn, hp⟩ := h.struct_inv Tryz.underlying31
  obtain ⟨a, b, rfl⟩ := two hn
  obtain ⟨yss, rfl, hm, hq⟩ := (hp 0 _ a rfl rfl).array_inv Tryz.underlying29
  obtain ⟨a0, a1, a2, a3, a4, a5, a6, a7, rfl⟩ := flat8 hm
  obtain ⟨n0, h0, w0⟩ := sh_i64 (hq a0 (by simp))
  obtain ⟨n1, h1, w1⟩ := sh_i64 (hq a1 (by simp))
  obtain ⟨n2, h2, w2⟩ := sh_i64 (hq a2 (by simp))
  obtain ⟨n3, h3, w3⟩ := sh_i64 (hq a3 (by simp))
  obtain ⟨n4, h4, w4⟩ := sh_i64 (hq a4 (by simp))
  obtain ⟨n5, h5, w5⟩ := sh_i64 (hq a5 (by simp))
  obtain ⟨n6, h6, w6⟩ := sh_i64 (hq a6 (by simp))
  obtain ⟨n7, h7, w7⟩ := sh_i64 (hq a7 (by simp))
  obtain ⟨n8, h8, w8⟩ := sh_i64 (hp 1 _ b rfl rfl)
  refine ⟨⟨n0, n1, n2, n3, n4, n5, n6, n7, n8⟩, by simp [wkL_app, h0, h1, h2, h3, h4, h5, h6, h7, h8, Rg.cells], ⟨?_, w8⟩⟩
  intro x hx
  simp only [Rg.list, List.mem_cons, List.not_mem_nil, or_false] at hx
  rcases hx with rfl | rfl | rfl | rfl | rfl | rfl | rfl | rfl <;> assumption
theorem read_agg {H : Type} {enc : TypeId × Value → H} {P : Program} {w : World} {t : TypeId} {fs : Array Field} {v : Value} {d : DataW H} {p : List MemPlace} {base : Nat} (m : Nat) (ht : P.underlying t = some (.struct fs)) (hp : plainB P m t = true)
    (hv : Value.okWide P w .any base t v) (h : DataW.Trod enc P w 0 (fun _ => true) true t v d p) : ∃ xs, VR (snapAll w) noEnv (.agg (wkL xs)) v ∧ Sh P t xs := by
  unfold Value.okWide at hv
  rw [ht] at hv
  obtain ⟨cs, rfl, _⟩ := hv
  obtain ⟨n, hn⟩ := h
  obtain ⟨xs, h1, h2⟩ := read_trod m t hp n _ _ hn
  have hlen : xs.length = cs.size := by rw [h1.1]; simp [Value.cells]
  refine ⟨xs, ?_, h2⟩
  have := VR.wk (VR.agg (sn := snapAll w) noEnv xs cs hlen.symm fun k x y hx hy => (h1.2 k x y hx (by simpa [Value.cells] using hy)).1)
  simpa [AV.wk] using this
section
variable {H : Type} {enc : TypeId × Value → H} {w : World} {v : Value} {d : DataW H} {p : List MemPlace} {base : Nat}
end
theorem lout : laidOutB Tryz.prog = true := by kernel_rfl
theorem own : ownKnob Tryz.prog.godebug = none := by kernel_rfl
theorem rd_ok {l : List TypeId} (h : (l.all fun t => Tryz.prog.readableRec t && decide (t < Tryz.prog.types.size)) = true) : ∀ t ∈ l, Tryz.prog.readableRec t = true ∧ t < Tryz.prog.types.size := fun t ht => by
  have := List.all_eq_true.1 h t ht
  simpa using this
end Go.Proofs.YtfiflailjbmlpaaGreatDoor
set_option maxRecDepth 100000
set_option linter.unusedVariables false
set_option linter.unusedSimpArgs false
namespace Go.Proofs.YtfiflailjbmlpaaGreatDoor
open Go.AM
open Go.ChangeShapes Go.WideShapes Go.ChangeAt Go.RowKit
theorem flat5 {xss : List (List AV)} (h : xss.length = 5) : ∃ a b c d e, xss = [a, b, c, d, e] := by
  match xss, h with
  | [a, b, c, d, e], _ => exact ⟨a, b, c, d, e, rfl⟩
theorem sh_fault {xs : List AV} (h : Sh Tryz.prog 34 xs) : ∃ f : Flt, wkL xs = f.cells := by
  obtain ⟨xss, rfl, hn, hp⟩ := h.struct_inv Tryz.underlying34
  obtain ⟨a, b, rfl⟩ := two hn
  obtain ⟨n0, h0, _⟩ := sh_int (hp 0 _ a rfl rfl)
  obtain ⟨n1, h1, _⟩ := sh_i64 (hp 1 _ b rfl rfl)
  exact ⟨⟨n0, n1⟩, by simp [wkL_app, h0, h1, Flt.cells]⟩
theorem sh_trap {xs : List AV} (h : Sh Tryz.prog 36 xs) : ∃ f : Trp, wkL xs = f.cells := by
  obtain ⟨xss, rfl, hn, hp⟩ := h.struct_inv Tryz.underlying36
  obtain ⟨a, b, c, rfl⟩ := flat3 hn
  obtain ⟨n0, h0, _⟩ := sh_int (hp 0 _ a rfl rfl)
  first
    | (obtain ⟨n1, h1, _⟩ := sh_int (hp 1 _ b rfl rfl)
       obtain ⟨f, h2⟩ := sh_fault (hp 2 _ c rfl rfl)
       exact ⟨⟨n0, n1, f⟩, by simp [wkL_app, h0, h1, h2, Trp.cells, Flt.cells]⟩)
    | (obtain ⟨f, h2⟩ := sh_fault (hp 1 _ b rfl rfl)
       obtain ⟨n1, h1, _⟩ := sh_int (hp 2 _ c rfl rfl)
       exact ⟨⟨n0, n1, f⟩, by simp [wkL_app, h0, h1, h2, Trp.cells, Flt.cells]⟩)
theorem sh_bytes {xs : List AV} (h : Sh Tryz.prog 23 xs) : ∃ l : List UInt8, wkL xs = [.view false 1 (l.map rb)] := by
  obtain ⟨f2, r2', h2, _, hr2⟩ := h.slice_inv Tryz.underlying23
  obtain ⟨l2, hl2⟩ := Sh.rows (f := rb) (fun row hrow => sh_u8 hrow) hr2
  subst h2
  exact ⟨l2, by simp [AV.wk, wkL, hl2, cells_u8]⟩
theorem sh_effect {xs : List AV} (h : Sh Tryz.prog 40 xs) : ∃ e : Eff, wkL xs = e.cells ∧ I64 e.pos ∧ e.rg.wf := by
  obtain ⟨xss, rfl, hn, hp⟩ := h.struct_inv Tryz.underlying40
  obtain ⟨a, b, c, d, e, rfl⟩ := flat5 hn
  obtain ⟨r, h0, w0⟩ := sh_regs (hp 0 _ a rfl rfl)
  obtain ⟨n, h1, w1⟩ := sh_i64 (hp 1 _ b rfl rfl)
  obtain ⟨l, h2⟩ := sh_bytes (hp 2 _ c rfl rfl)
  obtain ⟨t, h3⟩ := sh_trap (hp 3 _ d rfl rfl)
  obtain ⟨x, h4⟩ := sh_insn (hp 4 _ e rfl rfl)
  exact ⟨⟨r, n, l, t, x⟩, by simp [wkL_app, h0, h1, h2, h3, h4, Eff.cells, Eff.cellsD, Rg.cells, Trp.cells, Ins.cells], w1, w0⟩
section
variable {H : Type} {enc : TypeId × Value → H} {w : World} {v : Value} {d : DataW H} {p : List MemPlace} {base : Nat}
theorem read_effect (hv : Value.okWide Tryz.prog w .any base 40 v) (h : DataW.Trod enc Tryz.prog w 0 (fun _ => true) true 40 v d p) : ∃ e : Eff, VR (snapAll w) noEnv e.av v ∧ I64 e.pos := by
  obtain ⟨xs, h1, h2⟩ := read_agg 5 Tryz.underlying40 (by kernel_rfl) hv h
  obtain ⟨e, hx, hw, _⟩ := sh_effect h2
  exact ⟨e, by rw [hx] at h1; exact h1, hw⟩
end
end Go.Proofs.YtfiflailjbmlpaaGreatDoor
set_option maxRecDepth 100000
set_option linter.unusedVariables false
set_option linter.unusedSimpArgs false
namespace Go.Proofs.YtfiflailjbmlpaaGreatDoor
open Go.AM
open Go.ChangeShapes Go.WideShapes Go.ChangeAt Go.RowKit
theorem cells_patch : Tryz.prog.cellsOf 92 = 3 := by kernel_rfl
theorem sh_patch {xs : List AV} (h : Sh Tryz.prog 92 xs) : ∃ x : Pt, wkL xs = rp x := by
  obtain ⟨xss, rfl, hn, hp⟩ := h.struct_inv Tryz.underlying92
  obtain ⟨a, b, c, rfl⟩ := flat3 hn
  obtain ⟨n0, h0, _⟩ := sh_i64 (hp 0 _ a rfl rfl)
  obtain ⟨n1, h1⟩ := sh_u8 (hp 1 _ b rfl rfl)
  obtain ⟨n2, h2, _⟩ := sh_int (hp 2 _ c rfl rfl)
  exact ⟨⟨n0, n1, n2⟩, by simp [wkL_app, h0, h1, h2]⟩
section
variable {H : Type} {enc : TypeId × Value → H} {w : World} {v : Value} {d : DataW H} {p : List MemPlace} {base : Nat}
end
end Go.Proofs.YtfiflailjbmlpaaGreatDoor
set_option maxRecDepth 100000
set_option linter.unusedVariables false
set_option linter.unusedSimpArgs false
namespace Go.Proofs.YtfiflailjbmlpaaGreatDoor
open Go.AM
open Go.ChangeShapes Go.WideShapes Go.ChangeAt Go.RowKit
theorem rows_len {P : Program} {e : TypeId} {A : Type} {f : A → List AV} {rows : List (List AV)} {l : List A} (hl : wkR rows = l.map f) (hm : rows.length ≤ maxLen) : l.length ≤ 9223372036854775807 := by
  have h : (wkR rows).length = l.length := by rw [hl, List.length_map]
  have h2 : (wkR rows).length = rows.length := by
    clear hl hm h
    induction rows with
    | nil => simp [wkR]
    | cons a rows ih => simp [wkR, ih]
  unfold maxLen at hm
  omega
theorem sh_spaceR {xs : List AV} (h : Sh Tryz.prog 25 xs) : ∃ s : Sp, wkL xs = [.view false 1 (s.perm.map r1), .view false 1 (s.byt.map rb)] ∧ s.perm.length ≤ 9223372036854775807 ∧ s.byt.length ≤ 9223372036854775807 := by
  obtain ⟨xss, rfl, hn, hp⟩ := h.struct_inv Tryz.underlying25
  obtain ⟨a, b, rfl⟩ := two hn
  obtain ⟨f1, r1', h1, m1, hr1⟩ := (hp 0 _ a rfl rfl).slice_inv Tryz.underlying22
  obtain ⟨f2, r2', h2, m2, hr2⟩ := (hp 1 _ b rfl rfl).slice_inv Tryz.underlying23
  obtain ⟨l1, hl1⟩ := Sh.rows (f := r1) (fun row hrow => (sh_int hrow).imp fun n hn => hn.1) hr1
  obtain ⟨l2, hl2⟩ := Sh.rows (f := rb) (fun row hrow => sh_u8 hrow) hr2
  subst h1 h2
  refine ⟨⟨l1, l2⟩, ?_, rows_len (P := Tryz.prog) (e := 0) hl1 m1, rows_len (P := Tryz.prog) (e := 0) hl2 m2⟩
  simp [AV.wk, wkL_app, wkL, hl1, hl2, cells_int, cells_u8]
theorem sh_patchedR {xs : List AV} (h : Sh Tryz.prog 28 xs) : ∃ p : Pd, wkL xs = [.view false 1 (p.s.perm.map r1), .view false 1 (p.s.byt.map rb), .view false 3 (p.l.map rp)] ∧ p.room := by
  obtain ⟨xss, rfl, hn, hp⟩ := h.struct_inv Tryz.underlying28
  obtain ⟨a, b, rfl⟩ := two hn
  obtain ⟨s, h0, m1, m2⟩ := sh_spaceR (hp 0 _ a rfl rfl)
  obtain ⟨f1, r1', h1, m3, hr1⟩ := (hp 1 _ b rfl rfl).slice_inv Tryz.underlying26
  obtain ⟨l1, hl1⟩ := Sh.rows (f := rp) (fun row hrow => sh_patch hrow) hr1
  subst h1
  refine ⟨⟨s, l1⟩, ?_, ⟨m1, m2, rows_len (P := Tryz.prog) (e := 0) hl1 m3⟩⟩
  simp [AV.wk, wkL_app, wkL, h0, hl1, cells_patch]
section
variable {H : Type} {enc : TypeId × Value → H} {w : World} {v : Value} {d : DataW H} {p : List MemPlace} {base : Nat}
theorem read_patchedR (hv : Value.okWide Tryz.prog w .any base 28 v) (h : DataW.Trod enc Tryz.prog w 0 (fun _ => true) true 28 v d p) : ∃ p : Pd, VR (snapAll w) noEnv p.av v ∧ p.room := by
  obtain ⟨xs, h1, h2⟩ := read_agg 5 Tryz.underlying28 (by kernel_rfl) hv h
  obtain ⟨x, hx, hr⟩ := sh_patchedR h2
  exact ⟨x, by rw [hx] at h1; exact h1, hr⟩
end
end Go.Proofs.YtfiflailjbmlpaaGreatDoor
set_option maxRecDepth 100000
set_option linter.unusedVariables false
set_option linter.unusedSimpArgs false
namespace Go.Proofs.YtfiflailjbmlpaaGreatDoor.patchMoves
open Go.AM
open Go.ChangeShapes Go.WideShapes Go.ChangeAt Go.RowKit
abbrev laid : List (String × DataW Unit) := [("tapline/insn.kinds", Rows.laid_tapline_insn_kinds)]
theorem lifted (os : Os) (started : os.Started) (H : Type) (enc : TypeId × Value → H) :
    ReturnsInHanded {} Tryz.checked os 9 .any (fun w args => (Rows.patchMovesSpec.pre enc Tryz.prog Tryz.f9 Rows.patchMovesRow.domain false w args ∧ laidMetH Tryz.prog laid w) ∧ sizedMet enc Tryz.prog Tryz.f9 (OpenSpec.ofChange Rows.patchMovesSpec) false w args)
      (Rows.patchMovesSpec.post enc Tryz.prog Tryz.f9 false true false false) := by
  refine returnsInHanded_of_change_and (C := Tryz.checked) (X := fun w _ => laidMetH Tryz.prog laid w) (fun _ _ _ hh h => h.of_heap hh) own started (by kernel_rfl) Tryz.func9
    (ChangeSpec.witness_shaped (enc := enc) (C := Tryz.checked) (os := os) (X := fun w _ => laidMetH Tryz.prog laid w) false (World.laidAll Tryz.prog os laid) #[.agg #[.slice none 0 0, .slice none 0 0, .slice none 0 0], .agg #[.int .i64 0, .int .i64 0, .int .i64 0, .int .i64 0, .int .i64 0, .int .i64 0, .int .i64 0, .int .i64 0, .int .i64 0, .int .i64 0, .slice none 0 0, .int .i64 0, .int .i64 0, .int .i64 0, .int .i64 0, .int .i64 0, .int .i64 0, .int .i64 0, .int .i64 0], .agg #[.slice none 0 0, .slice none 0 0, .slice none 0 0]] 8 (World.laidAll_os _ _ _)
      (World.shaped_of_ZipB (by kernel_rfl) (by kernel_rfl)) (by kernel_rfl) (by kernel_rfl) (by kernel_rfl)
      (by rw [MakeChecks.laidMetH_plain _ _ _ (by kernel_rfl)]; exact laidMet_laidAll _ (by kernel_rfl) (by kernel_rfl))) ?_
  intro W base args ds gs before hval0 hW hcnd _ hL _
  have hval : ∀ (j : Nat) t v, Tryz.f9.params[j]? = some t → args[j]? = some v → Value.okWide Tryz.prog W .any base t v := hval0
  have hW' := hW
  obtain ⟨p, q, hA0, hV, rfl, hfz, hnd⟩ := hW'
  have hA : DataW.TrodAll enc Tryz.prog W 0 (fun _ => true) true Tryz.f9.params.toList args.toList ds p := hA0
  rw [Tryz.params9] at hA hval
  obtain ⟨v0, vs0, d0, ds0, p0, q0, hargs, rfl, rfl, h0, t0⟩ := trodAll_cons hA
  obtain ⟨v1, vs1, d1, ds1, p1, q1, rfl, rfl, rfl, h1, t1⟩ := trodAll_cons t0
  obtain ⟨v2, vs2, d2, ds2, p2, q2, rfl, rfl, rfl, h2, t2⟩ := trodAll_cons t1
  obtain ⟨rfl, rfl, rfl⟩ := trodAll_nil t2
  obtain rfl : args = #[v0, v1, v2] := by cases args; simp_all
  obtain ⟨p0, g0, z0⟩ := read_patchedR (hval 0 _ v0 rfl rfl) h0
  obtain ⟨e1, g1, w1⟩ := read_effect (hval 1 _ v1 rfl rfl) h1
  obtain ⟨p2, g2, z2⟩ := read_patchedR (hval 2 _ v2 rfl rfl) h2
  refine law_contract (PatchMoves_c p0 z0 e1 w1 p2 z2) hW rfl rfl Tryz.underlying4 rfl lout ?_ (glok hL) (vrs_cons g0 (vrs_cons g1 (vrs_cons g2 vrs_nil)))
  rw [Tryz.params9]
  exact rd_ok (by kernel_rfl)
theorem over : Rows.patchMovesRow.holds Tryz.pinned (OpenSpec.ofChange Rows.patchMovesSpec) :=
  OpenClaim.holds_of_wide 9 Tryz.f9 rfl rfl rfl rfl rfl rfl rfl ⟨rfl, rfl, rfl, rfl, rfl⟩ rfl rfl rfl rfl rfl (by kernel_rfl) Tryz.func9 (by kernel_rfl)
    (of_decide_eq_true (by kernel_rfl)) (by unfold Func.isWrapper; first | (rw [if_pos (by decide +kernel)]; kernel_rfl) | (rw [if_neg (by decide +kernel)]; exact ⟨rfl, rfl⟩))
    (fun os started H enc _ => lifted os started H enc)
end Go.Proofs.YtfiflailjbmlpaaGreatDoor.patchMoves
namespace Go.Proofs.YtfiflailjbmlpaaGreatDoor
open Go.ChangeShapes Go.WideShapes Go.ChangeAt Go.RowKit
theorem PatchMoves_holds : Rows.PatchMovesCardSaid :=
  Claim7.holds_tied_plain_at .later [] [.data] true (true, "ea4cc0f2ded47b671e2122025cf082f487491e1966c9bc2ced630b359658aba1") true patchMoves.over (fun _ h => by cases h) (by kernel_rfl) (fun _ h => by cases h) patchMoves_row_tie rfl ⟨rfl, rfl⟩ (by kernel_rfl) rfl
    (fun f fn hf hfn => by
      obtain rfl : f = 9 := Option.some.inj ((show Tryz.prog.funcNamed "tapline/taplinelaw07.PatchMoves" = some 9 by kernel_rfl).symm.trans hf) |>.symm
      obtain rfl : fn = Tryz.f9 := (Option.some.inj (Tryz.func9.symm.trans hfn)).symm
      exact ⟨by kernel_rfl, fun j t ht => by
        rw [Tryz.params9] at ht
        have hm : t ∈ [28, 40, 28] := by simpa using Array.mem_of_getElem? ht
        have hall : ([28, 40, 28].all fun u => !Tryz.prog.wantsStandIn u) = true := by kernel_rfl
        exact (show Tryz.prog.wantsStandIn t = false by simpa using List.all_eq_true.1 hall t hm)⟩)
    (by kernel_rfl)
end Go.Proofs.YtfiflailjbmlpaaGreatDoor
