/- patch: PatchBases, as the card states it. No condition. -/
import Derived.Test.YtfiflailjbmlpaaGreatDoorZ5
import Derived.Test.YtfiflailjbmlpaaGreatDoorTie
import Derived.Test.YtfiflailjbmlpaaGreatDoorCards
import Derived.ProofKit
import Derived.OpenShut
import Derived.LaidMore
import Derived.Lay
import Derived.SevenTiedAt
import Derived.Stop.Joined
set_option maxRecDepth 100000
set_option linter.unusedVariables false
set_option linter.unusedSimpArgs false
namespace Go.Proofs.YtfiflailjbmlpaaGreatDoor
open Go.AM
abbrev rfd (e : Int) : AV := .iface 132 (.agg [iv e])
theorem pmust_ok : ACalls Tryz.prog 57 [iv 0] [] (fun o H => o = .ret (.tuple []) ∧ H = []) := by
  refine ACalls.up ?_
  refine ACalls.intro (cs := []) (n := 7) Tryz.func57 rfl rfl rfl (by kernel_rfl) rfl ?_
  simp only [go_sem,Nat.reduceAdd,Nat.reduceSub,Nat.reduceMul,Nat.reduceEqDiff,Nat.reduceLeDiff,Nat.reduceLT,↓reduceIte,Int.reduceToNat,reduceCtorEq,Int.reduceLT,Int.reduceLE,Int.reduceGT,Int.reduceGE,Int.reduceEq,Int.reduceNe,Int.reduceNeg,Int.reduceAdd,Int.reduceSub]
  exact .done ⟨rfl, rfl⟩
theorem pmust_no (e : Int) (h : e ≠ 0) : ACalls Tryz.prog 57 [iv e] [] (fun o H => o = .pan (rfd e) ∧ H = []) := by
  refine ACalls.up ?_
  refine ACalls.intro (cs := []) (n := 7) Tryz.func57 rfl rfl rfl (by kernel_rfl) rfl ?_
  simp only [go_sem,Nat.reduceAdd,Nat.reduceSub,Nat.reduceMul,Nat.reduceEqDiff,Nat.reduceLeDiff,Nat.reduceLT,↓reduceIte,Int.reduceToNat,reduceCtorEq,Int.reduceLT,Int.reduceLE,Int.reduceGT,Int.reduceGE,Int.reduceEq,Int.reduceNe,Int.reduceNeg,Int.reduceAdd,Int.reduceSub,eq_false h]
  exact .done ⟨rfl, rfl⟩
theorem hK_app {P : Program} {ops : Array Oper} {rest : List Oper} {Q : XQ} {s : Ch} {H : Heap} : hK P ops rest Q s H = cops P ops rest Q s H := id rfl
theorem caught_res : Tryz.f40.results.toList = [ResultVar.cell 2 41] := rfl
theorem app_at {H : Heap} {n : Nat} (h : H.length = n) (x : Blk) : (H ++ [x])[n]? = some x := by subst h; simp
theorem app_set {H : Heap} {n : Nat} (h : H.length = n) (x y : Blk) : (H ++ [x]).set n y = H ++ [y] := by subst h; simp
theorem app2_a {H : Heap} {n : Nat} (h : H.length = n) (x y : Blk) : (H ++ [x, y])[n]? = some x := by subst h; simp
theorem app2_b {H : Heap} {n : Nat} (h : H.length = n) (x y : Blk) : (H ++ [x, y])[n + 1]? = some y := by subst h; simp
theorem app2_sa {H : Heap} {n : Nat} (h : H.length = n) (x y z : Blk) : (H ++ [x, y]).set n z = H ++ [z, y] := by subst h; simp
theorem app2_sb {H : Heap} {n : Nat} (h : H.length = n) (x y z : Blk) : (H ++ [x, y]).set (n + 1) z = H ++ [x, z] := by subst h; simp
section
variable {g : FuncId} {cap : List AV} {H H' : Heap}
theorem caught_ret (hE : Enters Tryz.prog g) (hc : ACalls Tryz.prog g cap H (fun o H2 => o = .ret (.tuple []) ∧ H2 = H')) (ha : ltL H.length cap = true) (h1 : ∀ b ∈ H, b.lt H.length) (h2 : ∀ b ∈ H', b.lt H.length) (hl : H'.length = H.length) :
    ACalls Tryz.prog 40 [.func (.func g) [] cap] H (fun o H2 => o = .ret (iv 0) ∧ H2 = H') := by
  refine ACalls.up ?_
  refine ACalls.introD (n := 6) Tryz.func40 rfl (by kernel_rfl) rfl ?_
  refine DWp.seq (by kernel_rfl) ?_
  generalize hpost : (fun (o : Out) (H2 : Heap) => o = Out.ret (iv 0) ∧ H2 = H') = post
  simp only [go_sem,Nat.reduceAdd,Nat.reduceSub,Nat.reduceMul,Nat.reduceEqDiff,Nat.reduceLeDiff,Nat.reduceLT,↓reduceIte,Int.reduceToNat,reduceCtorEq,Int.reduceLT,Int.reduceLE,Int.reduceGT,Int.reduceGE,Int.reduceEq,Int.reduceNe,Int.reduceNeg,Int.reduceAdd,Int.reduceSub,hK_app]
  refine DWp.defer (by kernel_rfl) rfl (by kernel_rfl) (by kernel_rfl) ?_
  simp only [go_sem,Nat.reduceAdd,Nat.reduceSub,Nat.reduceMul,Nat.reduceEqDiff,Nat.reduceLeDiff,Nat.reduceLT,↓reduceIte,Int.reduceToNat,reduceCtorEq,Int.reduceLT,Int.reduceLE,Int.reduceGT,Int.reduceGE,Int.reduceEq,Int.reduceNe,Int.reduceNeg,Int.reduceAdd,Int.reduceSub,hK_app,List.length_append]
  refine ⟨(enters_of Tryz.func79 rfl (by decide)), fun d => ?_⟩
  refine rK_use hE (hc.frame (R := [.rows 1 [[iv 0]]]) ha rfl h1 h2 hl) ?_
  simp only [go_sem,Nat.reduceAdd,Nat.reduceSub,Nat.reduceMul,Nat.reduceEqDiff,Nat.reduceLeDiff,Nat.reduceLT,↓reduceIte,Int.reduceToNat,reduceCtorEq,Int.reduceLT,Int.reduceLE,Int.reduceGT,Int.reduceGE,Int.reduceEq,Int.reduceNe,Int.reduceNeg,Int.reduceAdd,Int.reduceSub,hK_app,app_at hl,app_set hl]
  refine ADef.intro (n := 12) Tryz.func79 rfl rfl (by kernel_rfl) rfl (by kernel_rfl) ?_
  simp only [go_sem,Nat.reduceAdd,Nat.reduceSub,Nat.reduceMul,Nat.reduceEqDiff,Nat.reduceLeDiff,Nat.reduceLT,↓reduceIte,Int.reduceToNat,reduceCtorEq,Int.reduceLT,Int.reduceLE,Int.reduceGT,Int.reduceGE,Int.reduceEq,Int.reduceNe,Int.reduceNeg,Int.reduceAdd,Int.reduceSub,hK_app,app_at hl,app_set hl,caught_res]
  refine .gc H.length (Nat.le_refl _) (by simp; omega) rfl ?_ (.done ?_)
  · rw [← hl, List.take_left]
    rw [hl]; exact h2
  · rw [← hpost, ← hl, List.take_left]
    exact ⟨rfl, rfl⟩
theorem caught_pan (e : Int) (hE : Enters Tryz.prog g) (hc : ACalls Tryz.prog g cap H (fun o H2 => o = .pan (rfd e) ∧ H2 = H')) (ha : ltL H.length cap = true) (h1 : ∀ b ∈ H, b.lt H.length) (h2 : ∀ b ∈ H', b.lt H.length) (hl : H'.length = H.length) :
    ACalls Tryz.prog 40 [.func (.func g) [] cap] H (fun o H2 => o = .ret (iv e) ∧ H2 = H') := by
  refine ACalls.up ?_
  refine ACalls.introD (n := 6) Tryz.func40 rfl (by kernel_rfl) rfl ?_
  refine DWp.seq (by kernel_rfl) ?_
  generalize hpost : (fun (o : Out) (H2 : Heap) => o = Out.ret (iv e) ∧ H2 = H') = post
  simp only [go_sem,Nat.reduceAdd,Nat.reduceSub,Nat.reduceMul,Nat.reduceEqDiff,Nat.reduceLeDiff,Nat.reduceLT,↓reduceIte,Int.reduceToNat,reduceCtorEq,Int.reduceLT,Int.reduceLE,Int.reduceGT,Int.reduceGE,Int.reduceEq,Int.reduceNe,Int.reduceNeg,Int.reduceAdd,Int.reduceSub,hK_app]
  refine DWp.defer (by kernel_rfl) rfl (by kernel_rfl) (by kernel_rfl) ?_
  simp only [go_sem,Nat.reduceAdd,Nat.reduceSub,Nat.reduceMul,Nat.reduceEqDiff,Nat.reduceLeDiff,Nat.reduceLT,↓reduceIte,Int.reduceToNat,reduceCtorEq,Int.reduceLT,Int.reduceLE,Int.reduceGT,Int.reduceGE,Int.reduceEq,Int.reduceNe,Int.reduceNeg,Int.reduceAdd,Int.reduceSub,hK_app,List.length_append]
  refine ⟨(enters_of Tryz.func79 rfl (by decide)), fun d => ?_⟩
  refine rK_pans hE (hc.framep (R := [.rows 1 [[iv 0]]]) ha rfl h1 h2 hl) ?_
  simp only [go_sem,Nat.reduceAdd,Nat.reduceSub,Nat.reduceMul,Nat.reduceEqDiff,Nat.reduceLeDiff,Nat.reduceLT,↓reduceIte,Int.reduceToNat,reduceCtorEq,Int.reduceLT,Int.reduceLE,Int.reduceGT,Int.reduceGE,Int.reduceEq,Int.reduceNe,Int.reduceNeg,Int.reduceAdd,Int.reduceSub,hK_app,app_at hl,app_set hl]
  refine ADef.intro (n := 12) Tryz.func79 rfl rfl (by kernel_rfl) rfl (by kernel_rfl) ?_
  simp only [go_sem,Nat.reduceAdd,Nat.reduceSub,Nat.reduceMul,Nat.reduceEqDiff,Nat.reduceLeDiff,Nat.reduceLT,↓reduceIte,Int.reduceToNat,reduceCtorEq,Int.reduceLT,Int.reduceLE,Int.reduceGT,Int.reduceGE,Int.reduceEq,Int.reduceNe,Int.reduceNeg,Int.reduceAdd,Int.reduceSub,hK_app,app_at hl,app_set hl,app2_a hl,app2_b hl,app2_sa hl,app2_sb hl,List.length_append,hl,caught_res]
  refine .gc H.length (Nat.le_refl _) (by simp; omega) rfl ?_ (.done ?_)
  · rw [← hl, List.take_left]
    rw [hl]; exact h2
  · rw [← hpost, ← hl, List.take_left]
    exact ⟨rfl, rfl⟩
end
end Go.Proofs.YtfiflailjbmlpaaGreatDoor
set_option maxRecDepth 100000
set_option linter.unusedVariables false
set_option linter.unusedSimpArgs false
namespace Go.Proofs.YtfiflailjbmlpaaGreatDoor
open Go.AM
theorem find_l {l : List Pt} (hs : Srt l) (hl : l.length ≤ 1000000) (a : Int) (r : Nat) {H : Heap} (hH : H[r]? = some (.rows 3 (l.map rp))) :
    ACalls Tryz.prog 48 [.sl r 0 l.length none, iv a] H (fun o H2 => o = .ret (.tuple [iv (lb a l), .bool (fnd a l)]) ∧ H2 = H) := by
  have e : fzL r 3 (l.map rp) [.sl r 0 l.length none, iv a] = [.view false 3 (l.map rp), iv a] := by
    simp only [fzL, AV.fz, List.drop_zero, if_true]
    rw [List.take_of_length_le (by simp)]
  refine ACalls.lend r rfl hH (rp_pure l) (by simp [fzOkL, AV.fzOk]) (by rw [e]; rfl) ?_
  rw [e]
  exact find_c l hs hl a
theorem bren_rp (π : Nat → Nat) (l : List Pt) : Blk.ren π (.rows 3 (l.map rp)) = .rows 3 (l.map rp) := by
  rw [Blk.ren]
  congr 1
  rw [List.map_map]
  exact List.map_congr_left fun x _ => rfl
theorem cur_lt {p : Pd} {a : Int} {y : Pt} (h : p.cur a = some y) : lb a p.l < p.l.length := (List.getElem?_eq_some_iff.1 (Pd.cur_at h).1).1
theorem set_rp (l : List Pt) (i : Nat) (x : Pt) : (l.map rp).set i (rp x) = (l.set i x).map rp := by rw [List.map_set]
theorem up_pd {post : CQ} {H : Heap} {q : Pd} (r k : Nat) (nb nl : Nat) (xs ys : List (List AV)) (hrk : r ≠ k) (hr : H[r]? = some (.rows 1 xs)) (hk : H[k]? = some (.rows 3 ys)) (hx : xs.take nb = q.s.byt.map rb) (hy : ys.take nl = q.l.map rp) (hxl : nb ≤ xs.length) (hyl : nl ≤ ys.length)
    (hp : ∀ row ∈ xs, ltL 0 row = true) (hp2 : ∀ row ∈ ys, ltL 0 row = true) (h : post (.ret q.av) []) : Up 0 post (.ret (.agg [.view false 1 (q.s.perm.map r1), .sl r 0 nb none, .sl k 0 nl none])) H := by
  have hkr : ¬ k = r := fun h => hrk h.symm
  refine up_two r 1 xs k 3 ys hrk hr hk hp hp2 ?_ ?_ ?_ ?_
  · simp [Out.fzOk, AV.fzOk, fzOkL, hxl, hkr]
  · simp [Out.fzOk, Out.fz, AV.fz, fzL, AV.fzOk, fzOkL, hkr, hyl]
  · simp [Out.fz, AV.fz, fzL, Out.lt, AV.lt, ltL, hkr]
  · simp only [Out.fz, AV.fz, fzL, if_true, if_neg hkr, List.drop_zero, hx, hy]
    exact h
theorem install_ok (p : Pd) (h : p.ok) (a : Int) (ha : I64 a) (h0 : (p.inst a).2 = 0) : ACalls Tryz.prog 55 [p.av, iv a] [] (fun o H => o = .ret (p.inst a).1.av ∧ H = []) := by
  refine ACalls.up ?_
  refine ACalls.intro (cs := []) (n := 76) Tryz.func55 rfl rfl rfl (by kernel_rfl) rfl ?_
  generalize hpost : (fun (o : Out) (H : Heap) => o = Out.ret (p.inst a).1.av ∧ H = []) = post
  have hl := h.len
  have hbl := byt_len h.sok
  simp only [go_sem,Nat.reduceAdd,Nat.reduceSub,Nat.reduceMul,Nat.reduceEqDiff,Nat.reduceLeDiff,Nat.reduceLT,↓reduceIte,Int.reduceToNat,reduceCtorEq,Int.reduceLT,Int.reduceLE,Int.reduceGT,Int.reduceGE,Int.reduceEq,Int.reduceNe,Int.reduceNeg,Int.reduceAdd,Int.reduceSub,Pd.av]
  refine rK_use (enters_of Tryz.func25 rfl (by decide)) (ACalls.pure_use (pcheck_c p) rfl rfl) ?_
  rw [Pd.chk_ok h]
  simp only [go_sem,Nat.reduceAdd,Nat.reduceSub,Nat.reduceMul,Nat.reduceEqDiff,Nat.reduceLeDiff,Nat.reduceLT,↓reduceIte,Int.reduceToNat,reduceCtorEq,Int.reduceLT,Int.reduceLE,Int.reduceGT,Int.reduceGE,Int.reduceEq,Int.reduceNe,Int.reduceNeg,Int.reduceAdd,Int.reduceSub]
  refine rK_use (enters_of Tryz.func57 rfl (by decide)) (ACalls.pure_use (pmust_ok) rfl rfl) ?_
  simp only [go_sem,Nat.reduceAdd,Nat.reduceSub,Nat.reduceMul,Nat.reduceEqDiff,Nat.reduceLeDiff,Nat.reduceLT,↓reduceIte,Int.reduceToNat,reduceCtorEq,Int.reduceLT,Int.reduceLE,Int.reduceGT,Int.reduceGE,Int.reduceEq,Int.reduceNe,Int.reduceNeg,Int.reduceAdd,Int.reduceSub]
  refine rK_use (enters_of Tryz.func58 rfl (by decide)) (pcopied_u p h.fit _) ?_
  simp only [go_sem,Nat.reduceAdd,Nat.reduceSub,Nat.reduceMul,Nat.reduceEqDiff,Nat.reduceLeDiff,Nat.reduceLT,↓reduceIte,Int.reduceToNat,reduceCtorEq,Int.reduceLT,Int.reduceLE,Int.reduceGT,Int.reduceGE,Int.reduceEq,Int.reduceNe,Int.reduceNeg,Int.reduceAdd,Int.reduceSub]
  refine rK_use (enters_of Tryz.func48 rfl (by decide)) (find_l h.sor (by omega) a 3 rfl) ?_
  rw [fnd_cur]
  unfold Pd.inst at h0 hpost
  cases hc : p.cur a with
  | some y =>
    rw [hc] at h0 hpost
    simp only at h0 hpost
    have hlb := cur_lt hc
    obtain ⟨hy, hya⟩ := Pd.cur_at hc
    have hf := h.fits y (List.mem_of_getElem? hy)
    have hn1 := hf.n1
    have hn2 := hf.n2
    by_cases hn : y.n = 1000
    · rw [if_pos hn] at h0; cases h0
    rw [if_neg hn] at hpost
    have g1 : (0 : Int) ≤ (lb a p.l : Int) ∧ (lb a p.l : Int) < (p.l.length : Int) := ⟨by omega, by omega⟩
    have e1 : iw .i64 (y.n + 1) = y.n + 1 := by rw [iw64] <;> omega
    simp only [go_sem,Nat.reduceAdd,Nat.reduceSub,Nat.reduceMul,Nat.reduceEqDiff,Nat.reduceLeDiff,Nat.reduceLT,↓reduceIte,Int.reduceToNat,reduceCtorEq,Int.reduceLT,Int.reduceLE,Int.reduceGT,Int.reduceGE,Int.reduceEq,Int.reduceNe,Int.reduceNeg,Int.reduceAdd,Int.reduceSub,Option.isSome_some,g1,hy,List.length_map,List.getElem?_map,eq_false hn,e1,hlb]
    refine up_pd (q := ⟨p.s, p.l.set (lb a p.l) ⟨y.at_, y.old, y.n + 1⟩⟩) 2 3 p.s.byt.length p.l.length _ _ (by decide) rfl rfl (List.take_of_length_le (by simp)) ?_ (by simp) (by simp) (rb_lt0 _) ?_ ?_
    · rw [set_rp _ _ ⟨y.at_, y.old, y.n + 1⟩, List.take_of_length_le (by simp)]
    · rw [set_rp _ _ ⟨y.at_, y.old, y.n + 1⟩]
      exact rp_lt0 _
    · rw [← hpost]
      exact ⟨rfl, rfl⟩
  | none =>
    rw [hc] at h0 hpost
    simp only at h0 hpost
    simp only [go_sem,Nat.reduceAdd,Nat.reduceSub,Nat.reduceMul,Nat.reduceEqDiff,Nat.reduceLeDiff,Nat.reduceLT,↓reduceIte,Int.reduceToNat,reduceCtorEq,Int.reduceLT,Int.reduceLE,Int.reduceGT,Int.reduceGE,Int.reduceEq,Int.reduceNe,Int.reduceNeg,Int.reduceAdd,Int.reduceSub,Option.isSome_none]
    refine rK_use (enters_of Tryz.func49 rfl (by decide)) (ACalls.pure_use (standing_c p.s h.sok a) rfl (by simp [sitC, Ins.cells, AV.lt, ltL])) ?_
    by_cases hst : (stand p.s a).e = 0
    rotate_left
    · rw [if_neg hst] at h0; cases h0
    rw [if_pos hst] at h0 hpost
    by_cases hn : p.l.length = 64
    · rw [if_pos hn] at h0; cases h0
    rw [if_neg hn] at hpost
    have hn' : ¬ (p.l.length : Int) = 64 := by omega
    obtain ⟨b0, b1, _, d, _, _, hd⟩ := stand_at ha (by rw [hst]; decide)
    rw [hd, Option.getD_some] at hpost
    have g2 : (0 : Int) ≤ a ∧ a < (p.s.byt.length : Int) := ⟨b0, b1⟩
    have g3 : a.toNat < p.s.byt.length := by omega
    simp only [go_sem,Nat.reduceAdd,Nat.reduceSub,Nat.reduceMul,Nat.reduceEqDiff,Nat.reduceLeDiff,Nat.reduceLT,↓reduceIte,Int.reduceToNat,reduceCtorEq,Int.reduceLT,Int.reduceLE,Int.reduceGT,Int.reduceGE,Int.reduceEq,Int.reduceNe,Int.reduceNeg,Int.reduceAdd,Int.reduceSub,decide_eq_true hst,sitC,Ins.cells,eq_false hn']
    refine draw [.qu 0 1, .rd 0 1, .qu 0 1, .qu 0 0, .qu 0 0, .qu 0 0, .qu 0 0, .qu 0 0, .qu 0 0, .qu 0 0, .qu 0 0, .mn 0, .mn 1, .qu 2 2, .mn 2] (by kernel_rfl) (by kernel_rfl) ?_
    simp only [go_sem,Nat.reduceAdd,Nat.reduceSub,Nat.reduceMul,Nat.reduceEqDiff,Nat.reduceLeDiff,Nat.reduceLT,↓reduceIte,Int.reduceToNat,reduceCtorEq,Int.reduceLT,Int.reduceLE,Int.reduceGT,Int.reduceGE,Int.reduceEq,Int.reduceNe,Int.reduceNeg,Int.reduceAdd,Int.reduceSub,g2,hd,List.length_map,List.getElem?_map]
    have hins : insL a ⟨a, d, 1⟩ p.l = p.l.take (lb a p.l) ++ ⟨a, d, 1⟩ :: p.l.drop (lb a p.l) := rfl
    refine dM_call (enters_of Tryz.func104 rfl (by decide)) ((insert_c p.l (lb a p.l) (lb_le a p.l) (by omega) ⟨a, d, 1⟩).useE [3, 6] (.sl 7 0 (p.l.length + 1) none) [.rows 3 [[.view false 1 (p.s.perm.map r1), .view false 1 (p.s.byt.map rb), .view false 3 (p.l.map rp)]], .rows 3 [[.view true 0 [], .view true 0 [], .view true 0 []]], .rows 1 (p.s.byt.map rb), .dead, .rows 3 [[.view false 1 (p.s.perm.map r1), .sl 2 0 p.s.byt.length none, .sl 3 0 p.l.length none]],
      .rows 5 [[iv (stand p.s a).x.op, iv (stand p.s a).x.a, iv (stand p.s a).x.b, iv (stand p.s a).x.imm, iv (stand p.s a).n]], .dead, .rows 3 ((insL a ⟨a, d, 1⟩ p.l).map rp)] (by simp) rfl (by simp) ?_ rfl rfl ?_) ?_
    · simp only [List.map_cons, List.map_nil, bren_rp, List.getElem?_cons_succ, List.getElem?_cons_zero]
      rfl
    · simp only [patch, setMany, List.length_cons, List.length_nil, List.drop_succ_cons, List.drop_zero, List.map_cons, List.map_nil, bren_rp, hins]
      rfl
    obtain ⟨z, hz⟩ := at_lt (l := p.s.byt.map rb) (i := a.toNat) (by simpa using g3)
    have eset : (p.s.byt.map rb).set a.toNat [.int .u8 204] = (p.s.put a.toNat 204).byt.map rb := by rw [Sp.put, List.map_set]; rfl
    simp only [go_sem,Nat.reduceAdd,Nat.reduceSub,Nat.reduceMul,Nat.reduceEqDiff,Nat.reduceLeDiff,Nat.reduceLT,↓reduceIte,Int.reduceToNat,reduceCtorEq,Int.reduceLT,Int.reduceLE,Int.reduceGT,Int.reduceGE,Int.reduceEq,Int.reduceNe,Int.reduceNeg,Int.reduceAdd,Int.reduceSub,g2,g3,hd,List.length_map,List.getElem?_map,eset]
    refine up_pd (q := ⟨p.s.put a.toNat 204, insL a ⟨a, d, 1⟩ p.l⟩) 2 7 p.s.byt.length (p.l.length + 1) _ _ (by decide) rfl rfl (List.take_of_length_le (by simp [Sp.put])) (List.take_of_length_le (by simp [ins_len])) (by simp [Sp.put]) (by simp [ins_len]) (rb_lt0 _) (rp_lt0 _) ?_
    rw [← hpost]
    exact ⟨rfl, rfl⟩
theorem install_no (p : Pd) (h : p.ok) (a : Int) (h0 : (p.inst a).2 ≠ 0) : ACalls Tryz.prog 55 [p.av, iv a] [] (fun o H => o = .pan (rfd (p.inst a).2) ∧ H = []) := by
  refine ACalls.up ?_
  refine ACalls.intro (cs := []) (n := 76) Tryz.func55 rfl rfl rfl (by kernel_rfl) rfl ?_
  generalize hpost : (fun (o : Out) (H : Heap) => o = Out.pan (rfd (p.inst a).2) ∧ H = []) = post
  have fin : ∀ n H, n = (p.inst a).2 → Up 0 post (.pan (rfd n)) H := fun n H h => finp rfl (by rw [← hpost, ← h]; exact ⟨rfl, rfl⟩) H
  have hl := h.len
  simp only [go_sem,Nat.reduceAdd,Nat.reduceSub,Nat.reduceMul,Nat.reduceEqDiff,Nat.reduceLeDiff,Nat.reduceLT,↓reduceIte,Int.reduceToNat,reduceCtorEq,Int.reduceLT,Int.reduceLE,Int.reduceGT,Int.reduceGE,Int.reduceEq,Int.reduceNe,Int.reduceNeg,Int.reduceAdd,Int.reduceSub,Pd.av]
  refine rK_use (enters_of Tryz.func25 rfl (by decide)) (ACalls.pure_use (pcheck_c p) rfl rfl) ?_
  rw [Pd.chk_ok h]
  simp only [go_sem,Nat.reduceAdd,Nat.reduceSub,Nat.reduceMul,Nat.reduceEqDiff,Nat.reduceLeDiff,Nat.reduceLT,↓reduceIte,Int.reduceToNat,reduceCtorEq,Int.reduceLT,Int.reduceLE,Int.reduceGT,Int.reduceGE,Int.reduceEq,Int.reduceNe,Int.reduceNeg,Int.reduceAdd,Int.reduceSub]
  refine rK_use (enters_of Tryz.func57 rfl (by decide)) (ACalls.pure_use (pmust_ok) rfl rfl) ?_
  simp only [go_sem,Nat.reduceAdd,Nat.reduceSub,Nat.reduceMul,Nat.reduceEqDiff,Nat.reduceLeDiff,Nat.reduceLT,↓reduceIte,Int.reduceToNat,reduceCtorEq,Int.reduceLT,Int.reduceLE,Int.reduceGT,Int.reduceGE,Int.reduceEq,Int.reduceNe,Int.reduceNeg,Int.reduceAdd,Int.reduceSub]
  refine rK_use (enters_of Tryz.func58 rfl (by decide)) (pcopied_u p h.fit _) ?_
  simp only [go_sem,Nat.reduceAdd,Nat.reduceSub,Nat.reduceMul,Nat.reduceEqDiff,Nat.reduceLeDiff,Nat.reduceLT,↓reduceIte,Int.reduceToNat,reduceCtorEq,Int.reduceLT,Int.reduceLE,Int.reduceGT,Int.reduceGE,Int.reduceEq,Int.reduceNe,Int.reduceNeg,Int.reduceAdd,Int.reduceSub]
  refine rK_use (enters_of Tryz.func48 rfl (by decide)) (find_l h.sor (by omega) a 3 rfl) ?_
  rw [fnd_cur]
  unfold Pd.inst at h0 fin
  cases hc : p.cur a with
  | some y =>
    rw [hc] at h0 fin
    simp only at h0 fin
    have hlb := cur_lt hc
    obtain ⟨hy, hya⟩ := Pd.cur_at hc
    have g1 : (0 : Int) ≤ (lb a p.l : Int) ∧ (lb a p.l : Int) < (p.l.length : Int) := ⟨by omega, by omega⟩
    by_cases hn : y.n = 1000
    rotate_left
    · rw [if_neg hn] at h0; exact absurd rfl h0
    rw [if_pos hn] at fin
    simp only [go_sem,Nat.reduceAdd,Nat.reduceSub,Nat.reduceMul,Nat.reduceEqDiff,Nat.reduceLeDiff,Nat.reduceLT,↓reduceIte,Int.reduceToNat,reduceCtorEq,Int.reduceLT,Int.reduceLE,Int.reduceGT,Int.reduceGE,Int.reduceEq,Int.reduceNe,Int.reduceNeg,Int.reduceAdd,Int.reduceSub,Option.isSome_some,g1,hy,List.length_map,List.getElem?_map,eq_true hn,hlb]
    refine rK_pans (enters_of Tryz.func57 rfl (by decide)) (ACalls.pure_pan (pmust_no 2 (by decide)) rfl rfl) ?_
    simp only [go_sem,Nat.reduceAdd,Nat.reduceSub,Nat.reduceMul,Nat.reduceEqDiff,Nat.reduceLeDiff,Nat.reduceLT,↓reduceIte,Int.reduceToNat,reduceCtorEq,Int.reduceLT,Int.reduceLE,Int.reduceGT,Int.reduceGE,Int.reduceEq,Int.reduceNe,Int.reduceNeg,Int.reduceAdd,Int.reduceSub]
    exact fin 2 _ rfl
  | none =>
    rw [hc] at h0 fin
    simp only at h0 fin
    simp only [go_sem,Nat.reduceAdd,Nat.reduceSub,Nat.reduceMul,Nat.reduceEqDiff,Nat.reduceLeDiff,Nat.reduceLT,↓reduceIte,Int.reduceToNat,reduceCtorEq,Int.reduceLT,Int.reduceLE,Int.reduceGT,Int.reduceGE,Int.reduceEq,Int.reduceNe,Int.reduceNeg,Int.reduceAdd,Int.reduceSub,Option.isSome_none]
    refine rK_use (enters_of Tryz.func49 rfl (by decide)) (ACalls.pure_use (standing_c p.s h.sok a) rfl (by simp [sitC, Ins.cells, AV.lt, ltL])) ?_
    by_cases hst : (stand p.s a).e = 0
    · rw [if_pos hst] at h0 fin
      by_cases hn : p.l.length = 64
      rotate_left
      · rw [if_neg hn] at h0; exact absurd rfl h0
      rw [if_pos hn] at fin
      have hn' : (p.l.length : Int) = 64 := by omega
      simp only [go_sem,Nat.reduceAdd,Nat.reduceSub,Nat.reduceMul,Nat.reduceEqDiff,Nat.reduceLeDiff,Nat.reduceLT,↓reduceIte,Int.reduceToNat,reduceCtorEq,Int.reduceLT,Int.reduceLE,Int.reduceGT,Int.reduceGE,Int.reduceEq,Int.reduceNe,Int.reduceNeg,Int.reduceAdd,Int.reduceSub,decide_eq_true hst,sitC,Ins.cells,eq_true hn']
      refine rK_pans (enters_of Tryz.func57 rfl (by decide)) (ACalls.pure_pan (pmust_no 2 (by decide)) rfl rfl) ?_
      simp only [go_sem,Nat.reduceAdd,Nat.reduceSub,Nat.reduceMul,Nat.reduceEqDiff,Nat.reduceLeDiff,Nat.reduceLT,↓reduceIte,Int.reduceToNat,reduceCtorEq,Int.reduceLT,Int.reduceLE,Int.reduceGT,Int.reduceGE,Int.reduceEq,Int.reduceNe,Int.reduceNeg,Int.reduceAdd,Int.reduceSub]
      exact fin 2 _ rfl
    · rw [if_neg hst] at fin
      simp only [go_sem,Nat.reduceAdd,Nat.reduceSub,Nat.reduceMul,Nat.reduceEqDiff,Nat.reduceLeDiff,Nat.reduceLT,↓reduceIte,Int.reduceToNat,reduceCtorEq,Int.reduceLT,Int.reduceLE,Int.reduceGT,Int.reduceGE,Int.reduceEq,Int.reduceNe,Int.reduceNeg,Int.reduceAdd,Int.reduceSub,decide_eq_false hst,sitC,Ins.cells]
      refine rK_pans (enters_of Tryz.func57 rfl (by decide)) (ACalls.pure_pan (pmust_no 71 (by decide)) rfl rfl) ?_
      simp only [go_sem,Nat.reduceAdd,Nat.reduceSub,Nat.reduceMul,Nat.reduceEqDiff,Nat.reduceLeDiff,Nat.reduceLT,↓reduceIte,Int.reduceToNat,reduceCtorEq,Int.reduceLT,Int.reduceLE,Int.reduceGT,Int.reduceGE,Int.reduceEq,Int.reduceNe,Int.reduceNeg,Int.reduceAdd,Int.reduceSub]
      exact fin 71 _ rfl
theorem install_n (p : Pd) (h : ¬ p.ok) (a : Int) : ACalls Tryz.prog 55 [p.av, iv a] [] (fun o H => o = .pan (rfd 70) ∧ H = []) := by
  refine ACalls.up ?_
  refine ACalls.intro (cs := []) (n := 76) Tryz.func55 rfl rfl rfl (by kernel_rfl) rfl ?_
  simp only [go_sem,Nat.reduceAdd,Nat.reduceSub,Nat.reduceMul,Nat.reduceEqDiff,Nat.reduceLeDiff,Nat.reduceLT,↓reduceIte,Int.reduceToNat,reduceCtorEq,Int.reduceLT,Int.reduceLE,Int.reduceGT,Int.reduceGE,Int.reduceEq,Int.reduceNe,Int.reduceNeg,Int.reduceAdd,Int.reduceSub,Pd.av]
  refine rK_use (enters_of Tryz.func25 rfl (by decide)) (ACalls.pure_use (pcheck_c p) rfl rfl) ?_
  rw [Pd.chk_no h]
  simp only [go_sem,Nat.reduceAdd,Nat.reduceSub,Nat.reduceMul,Nat.reduceEqDiff,Nat.reduceLeDiff,Nat.reduceLT,↓reduceIte,Int.reduceToNat,reduceCtorEq,Int.reduceLT,Int.reduceLE,Int.reduceGT,Int.reduceGE,Int.reduceEq,Int.reduceNe,Int.reduceNeg,Int.reduceAdd,Int.reduceSub]
  refine rK_pans (enters_of Tryz.func57 rfl (by decide)) (ACalls.pure_pan (pmust_no 70 (by decide)) rfl rfl) ?_
  simp only [go_sem,Nat.reduceAdd,Nat.reduceSub,Nat.reduceMul,Nat.reduceEqDiff,Nat.reduceLeDiff,Nat.reduceLT,↓reduceIte,Int.reduceToNat,reduceCtorEq,Int.reduceLT,Int.reduceLE,Int.reduceGT,Int.reduceGE,Int.reduceEq,Int.reduceNe,Int.reduceNeg,Int.reduceAdd,Int.reduceSub]
  exact finp rfl ⟨rfl, rfl⟩ _
open Classical in
noncomputable def Pd.instA (p : Pd) (a : Int) : Pd × Int := if p.ok then p.inst a else (p0, 70)
theorem install_pan (p : Pd) (a : Int) (h0 : (p.instA a).2 ≠ 0) : ACalls Tryz.prog 55 [p.av, iv a] [] (fun o H => o = .pan (rfd (p.instA a).2) ∧ H = []) := by
  unfold Pd.instA at h0 ⊢
  by_cases h : p.ok
  · rw [if_pos h] at h0 ⊢
    exact install_no p h a h0
  · rw [if_neg h]
    exact install_n p h a
def Pd.cells (p : Pd) : List AV := [.view false 1 (p.s.perm.map r1), .view false 1 (p.s.byt.map rb), .view false 3 (p.l.map rp)]
def pdN : List AV := [.view true 0 [], .view true 0 [], .view true 0 []]
theorem pdN_le : LeV (.agg pdN) p0.av := .agg (.cons (.nil true false 0 1 (by simp)) (.cons (.nil true false 0 1 (by simp)) (.cons (.nil true false 0 3 (by simp)) .nil)))
theorem inst_p0 (p : Pd) (a : Int) (h0 : (p.instA a).2 ≠ 0) : (p.instA a).1 = p0 := by
  unfold Pd.instA Pd.inst at h0 ⊢
  repeat' split
  all_goals first | rfl | skip
  all_goals simp_all
theorem Install_c (p : Pd) (a : Int) (ha : I64 a) : ACalls Tryz.prog 18 [p.av, iv a] [] (fun o H => o = .ret (.tuple [(p.instA a).1.av, iv (p.instA a).2]) ∧ H = []) := by
  refine ACalls.up ?_
  refine ACalls.intro (cs := []) (n := 14) Tryz.func18 rfl rfl rfl (by kernel_rfl) rfl ?_
  generalize hpost : (fun (o : Out) (H : Heap) => o = Out.ret (.tuple [(p.instA a).1.av, iv (p.instA a).2]) ∧ H = []) = post
  simp only [go_sem,Nat.reduceAdd,Nat.reduceSub,Nat.reduceMul,Nat.reduceEqDiff,Nat.reduceLeDiff,Nat.reduceLT,↓reduceIte,Int.reduceToNat,reduceCtorEq,Int.reduceLT,Int.reduceLE,Int.reduceGT,Int.reduceGE,Int.reduceEq,Int.reduceNe,Int.reduceNeg,Int.reduceAdd,Int.reduceSub,Pd.av]
  by_cases h0 : (p.instA a).2 = 0
  · have hp : p.ok := Classical.byContradiction fun h => by rw [Pd.instA, if_neg h] at h0; cases h0
    have hcl : ACalls Tryz.prog 54 [.ptr 0 0 0, .ptr 1 0 0, .ptr 2 0 0] [.rows 3 [p.cells], .rows 1 [[iv a]], .rows 3 [pdN]] (fun o H => o = .ret (.tuple []) ∧ H = [.rows 3 [p.cells], .rows 1 [[iv a]], .rows 3 [(p.instA a).1.cells]]) := by
      refine ACalls.up ?_
      refine ACalls.intro (cs := []) (n := 6) Tryz.func54 rfl rfl rfl (by kernel_rfl) rfl ?_
      simp only [go_sem,Nat.reduceAdd,Nat.reduceSub,Nat.reduceMul,Nat.reduceEqDiff,Nat.reduceLeDiff,Nat.reduceLT,↓reduceIte,Int.reduceToNat,reduceCtorEq,Int.reduceLT,Int.reduceLE,Int.reduceGT,Int.reduceGE,Int.reduceEq,Int.reduceNe,Int.reduceNeg,Int.reduceAdd,Int.reduceSub,Pd.cells,pdN]
      have e : p.instA a = p.inst a := if_pos hp
      rw [e] at h0 ⊢
      refine rK_use (enters_of Tryz.func55 rfl (by decide)) (ACalls.pure_use (install_ok p hp a ha h0) rfl rfl) ?_
      simp only [go_sem,Nat.reduceAdd,Nat.reduceSub,Nat.reduceMul,Nat.reduceEqDiff,Nat.reduceLeDiff,Nat.reduceLT,↓reduceIte,Int.reduceToNat,reduceCtorEq,Int.reduceLT,Int.reduceLE,Int.reduceGT,Int.reduceGE,Int.reduceEq,Int.reduceNe,Int.reduceNeg,Int.reduceAdd,Int.reduceSub,Pd.av]
      exact .done ⟨rfl, rfl⟩
    refine rK_use (enters_of Tryz.func40 rfl (by decide)) (caught_ret (enters_of Tryz.func54 rfl (by decide)) hcl rfl (by simp [Blk.lt, ltL, AV.lt, Pd.cells, pdN]) (by simp [Blk.lt, ltL, AV.lt, Pd.cells]) rfl) ?_
    simp only [go_sem,Nat.reduceAdd,Nat.reduceSub,Nat.reduceMul,Nat.reduceEqDiff,Nat.reduceLeDiff,Nat.reduceLT,↓reduceIte,Int.reduceToNat,reduceCtorEq,Int.reduceLT,Int.reduceLE,Int.reduceGT,Int.reduceGE,Int.reduceEq,Int.reduceNe,Int.reduceNeg,Int.reduceAdd,Int.reduceSub,Pd.cells]
    refine finv rfl ?_ _
    rw [← hpost, h0]
    exact ⟨rfl, rfl⟩
  · have hcl : ACalls Tryz.prog 54 [.ptr 0 0 0, .ptr 1 0 0, .ptr 2 0 0] [.rows 3 [p.cells], .rows 1 [[iv a]], .rows 3 [pdN]] (fun o H => o = .pan (rfd (p.instA a).2) ∧ H = [.rows 3 [p.cells], .rows 1 [[iv a]], .rows 3 [pdN]]) := by
      refine ACalls.up ?_
      refine ACalls.intro (cs := []) (n := 6) Tryz.func54 rfl rfl rfl (by kernel_rfl) rfl ?_
      simp only [go_sem,Nat.reduceAdd,Nat.reduceSub,Nat.reduceMul,Nat.reduceEqDiff,Nat.reduceLeDiff,Nat.reduceLT,↓reduceIte,Int.reduceToNat,reduceCtorEq,Int.reduceLT,Int.reduceLE,Int.reduceGT,Int.reduceGE,Int.reduceEq,Int.reduceNe,Int.reduceNeg,Int.reduceAdd,Int.reduceSub,Pd.cells,pdN]
      refine rK_pans (enters_of Tryz.func55 rfl (by decide)) (ACalls.pure_pan (install_pan p a h0) rfl rfl) ?_
      simp only [go_sem,Nat.reduceAdd,Nat.reduceSub,Nat.reduceMul,Nat.reduceEqDiff,Nat.reduceLeDiff,Nat.reduceLT,↓reduceIte,Int.reduceToNat,reduceCtorEq,Int.reduceLT,Int.reduceLE,Int.reduceGT,Int.reduceGE,Int.reduceEq,Int.reduceNe,Int.reduceNeg,Int.reduceAdd,Int.reduceSub]
      exact .done ⟨rfl, rfl⟩
    refine rK_use (enters_of Tryz.func40 rfl (by decide)) (caught_pan (p.instA a).2 (enters_of Tryz.func54 rfl (by decide)) hcl rfl (by simp [Blk.lt, ltL, AV.lt, Pd.cells, pdN]) (by simp [Blk.lt, ltL, AV.lt, Pd.cells, pdN]) rfl) ?_
    simp only [go_sem,Nat.reduceAdd,Nat.reduceSub,Nat.reduceMul,Nat.reduceEqDiff,Nat.reduceLeDiff,Nat.reduceLT,↓reduceIte,Int.reduceToNat,reduceCtorEq,Int.reduceLT,Int.reduceLE,Int.reduceGT,Int.reduceGE,Int.reduceEq,Int.reduceNe,Int.reduceNeg,Int.reduceAdd,Int.reduceSub,Pd.cells,pdN,eq_false h0]
    refine .le (.ret (.tuple (.cons pdN_le (.cons (.refl _) .nil)))) (LeH.refl _) (finv rfl ?_ _)
    rw [← hpost, inst_p0 p a h0]
    exact ⟨rfl, rfl⟩
end Go.Proofs.YtfiflailjbmlpaaGreatDoor
set_option maxRecDepth 100000
set_option linter.unusedVariables false
set_option linter.unusedSimpArgs false
namespace Go.Proofs.YtfiflailjbmlpaaGreatDoor
open Go.AM
theorem up_cell {post : CQ} {p q : Pd} {a : Int} (nb nl : Nat) (xs ys : List (List AV)) (hx : xs.take nb = q.s.byt.map rb) (hy : ys.take nl = q.l.map rp) (hxl : nb ≤ xs.length) (hyl : nl ≤ ys.length)
    (hp : ∀ row ∈ xs, ltL 0 row = true) (hp2 : ∀ row ∈ ys, ltL 0 row = true) (h : post (.ret (.tuple [])) [.rows 3 [p.cells], .rows 1 [[iv a]], .rows 3 [q.cells]]) :
    Up 3 post (.ret (.tuple [])) [.rows 3 [p.cells], .rows 1 [[iv a]], .rows 3 [[.view false 1 (q.s.perm.map r1), .sl 3 0 nb none, .sl 4 0 nl none]], .rows 1 xs, .rows 3 ys] := by
  refine .fz 3 1 xs rfl (fun row hr x hx => ltL_mem (hp row hr) x hx) trivial ?_ ?_
  · simp only [List.set_cons_zero, List.set_cons_succ, List.forall_mem_cons]
    refine ⟨by simp [Blk.fzOk, fzOkL, AV.fzOk, Pd.cells], by simp [Blk.fzOk, fzOkL, AV.fzOk], by simp [Blk.fzOk, fzOkL, AV.fzOk, hxl], trivial, bfzOk_pure hp2, by simp⟩
  simp only [List.set_cons_zero, List.set_cons_succ, List.map_cons, List.map_nil, bfz_pure hp2]
  refine .fz 4 3 ys rfl (fun row hr x hx => ltL_mem (hp2 row hr) x hx) trivial ?_ ?_
  · simp only [List.set_cons_zero, List.set_cons_succ, List.forall_mem_cons]
    refine ⟨by simp [Blk.fz, fzL, AV.fz, Blk.fzOk, fzOkL, AV.fzOk, Pd.cells], by simp [Blk.fz, fzL, AV.fz, Blk.fzOk, fzOkL, AV.fzOk], by simp [Blk.fz, fzL, AV.fz, Blk.fzOk, fzOkL, AV.fzOk, hyl], trivial, trivial, by simp⟩
  simp only [Pd.cells, List.set_cons_zero, List.set_cons_succ, List.map_cons, List.map_nil, Blk.fz, fzL, AV.fz, Out.fz, if_true, if_false, Nat.reduceEqDiff, reduceIte, List.drop_zero, hx, hy]
  refine .gc 3 (Nat.le_refl _) (by simp) rfl (by simp [Blk.lt, ltL, AV.lt, Pd.cells]) (.done ?_)
  exact h
theorem remove1_ok (p : Pd) (h : p.ok) (a : Int) (h0 : (p.rem a).2 = 0) : ACalls Tryz.prog 56 [.ptr 0 0 0, .ptr 1 0 0, .ptr 2 0 0] [.rows 3 [p.cells], .rows 1 [[iv a]], .rows 3 [pdN]] (fun o H => o = .ret (.tuple []) ∧ H = [.rows 3 [p.cells], .rows 1 [[iv a]], .rows 3 [(p.rem a).1.cells]]) := by
  refine ACalls.up ?_
  refine ACalls.intro (cs := []) (n := 54) Tryz.func56 rfl rfl rfl (by kernel_rfl) rfl ?_
  generalize hpost : (fun (o : Out) (H : Heap) => o = Out.ret (.tuple []) ∧ H = [.rows 3 [p.cells], .rows 1 [[iv a]], .rows 3 [(p.rem a).1.cells]]) = post
  have hl := h.len
  have hbl := byt_len h.sok
  simp only [go_sem,Nat.reduceAdd,Nat.reduceSub,Nat.reduceMul,Nat.reduceEqDiff,Nat.reduceLeDiff,Nat.reduceLT,↓reduceIte,Int.reduceToNat,reduceCtorEq,Int.reduceLT,Int.reduceLE,Int.reduceGT,Int.reduceGE,Int.reduceEq,Int.reduceNe,Int.reduceNeg,Int.reduceAdd,Int.reduceSub,Pd.cells,pdN]
  refine rK_use (enters_of Tryz.func25 rfl (by decide)) (ACalls.pure_use (pcheck_c p) rfl rfl) ?_
  rw [Pd.chk_ok h]
  simp only [go_sem,Nat.reduceAdd,Nat.reduceSub,Nat.reduceMul,Nat.reduceEqDiff,Nat.reduceLeDiff,Nat.reduceLT,↓reduceIte,Int.reduceToNat,reduceCtorEq,Int.reduceLT,Int.reduceLE,Int.reduceGT,Int.reduceGE,Int.reduceEq,Int.reduceNe,Int.reduceNeg,Int.reduceAdd,Int.reduceSub]
  refine rK_use (enters_of Tryz.func57 rfl (by decide)) (ACalls.pure_use (pmust_ok) rfl rfl) ?_
  simp only [go_sem,Nat.reduceAdd,Nat.reduceSub,Nat.reduceMul,Nat.reduceEqDiff,Nat.reduceLeDiff,Nat.reduceLT,↓reduceIte,Int.reduceToNat,reduceCtorEq,Int.reduceLT,Int.reduceLE,Int.reduceGT,Int.reduceGE,Int.reduceEq,Int.reduceNe,Int.reduceNeg,Int.reduceAdd,Int.reduceSub]
  refine rK_use (enters_of Tryz.func48 rfl (by decide)) (ACalls.pure_use (find_c p.l h.sor (by omega) a) rfl rfl) ?_
  rw [fnd_cur]
  unfold Pd.rem at h0 hpost
  cases hc : p.cur a with
  | none => rw [hc] at h0; cases h0
  | some y =>
    rw [hc] at h0 hpost
    simp only at h0 hpost
    have hlb := cur_lt hc
    obtain ⟨hy, hya⟩ := Pd.cur_at hc
    have hf := h.fits y (List.mem_of_getElem? hy)
    have hn1 := hf.n1
    have hn2 := hf.n2
    have g1 : (0 : Int) ≤ (lb a p.l : Int) ∧ (lb a p.l : Int) < (p.l.length : Int) := ⟨by omega, by omega⟩
    have e1 : iw .i64 (y.n - 1) = y.n - 1 := by rw [iw64] <;> omega
    simp only [go_sem,Nat.reduceAdd,Nat.reduceSub,Nat.reduceMul,Nat.reduceEqDiff,Nat.reduceLeDiff,Nat.reduceLT,↓reduceIte,Int.reduceToNat,reduceCtorEq,Int.reduceLT,Int.reduceLE,Int.reduceGT,Int.reduceGE,Int.reduceEq,Int.reduceNe,Int.reduceNeg,Int.reduceAdd,Int.reduceSub,Option.isSome_some]
    refine rK_use (enters_of Tryz.func58 rfl (by decide)) (pcopied_u p h.fit _) ?_
    have hset : (p.l.map rp).set (lb a p.l) [iv y.at_, bv y.old, iv (y.n - 1)] = (p.l.set (lb a p.l) ⟨y.at_, y.old, y.n - 1⟩).map rp := set_rp _ _ ⟨y.at_, y.old, y.n - 1⟩
    have hs1 : (p.l.set (lb a p.l) ⟨y.at_, y.old, y.n - 1⟩)[lb a p.l]? = some ⟨y.at_, y.old, y.n - 1⟩ := List.getElem?_set_self hlb
    simp only [go_sem,Nat.reduceAdd,Nat.reduceSub,Nat.reduceMul,Nat.reduceEqDiff,Nat.reduceLeDiff,Nat.reduceLT,↓reduceIte,Int.reduceToNat,reduceCtorEq,Int.reduceLT,Int.reduceLE,Int.reduceGT,Int.reduceGE,Int.reduceEq,Int.reduceNe,Int.reduceNeg,Int.reduceAdd,Int.reduceSub,g1,hy,List.length_map,List.getElem?_map,e1,hlb,hset,hs1,List.length_set]
    by_cases hn : y.n = 1
    · rw [if_pos hn] at hpost
      have hz : y.n - 1 = 0 := by omega
      have e2 : iw .i64 ((lb a p.l : Int) + 1) = ((lb a p.l + 1 : Nat) : Int) := by rw [iw64] <;> omega
      have g2 : (0 : Int) ≤ a ∧ a < (p.s.byt.length : Int) := by rw [← hya]; exact ⟨hf.a0, hf.a1⟩
      have g3 : a.toNat < p.s.byt.length := by omega
      obtain ⟨z, hzz⟩ := at_lt (l := p.s.byt) (i := a.toNat) g3
      have eset : (p.s.byt.map rb).set a.toNat [.int .u8 (y.old.toNat : Int)] = (p.s.put a.toNat y.old).byt.map rb := by rw [Sp.put, List.map_set]
      simp only [go_sem,Nat.reduceAdd,Nat.reduceSub,Nat.reduceMul,Nat.reduceEqDiff,Nat.reduceLeDiff,Nat.reduceLT,↓reduceIte,Int.reduceToNat,reduceCtorEq,Int.reduceLT,Int.reduceLE,Int.reduceGT,Int.reduceGE,Int.reduceEq,Int.reduceNe,Int.reduceNeg,Int.reduceAdd,Int.reduceSub,eq_true hz]
      refine draw [.qu 0 0, .qu 0 0, .qu 0 0, .qu 0 0, .qu 0 0, .qu 0 0, .qu 0 0, .qu 0 0, .qu 0 0, .qu 0 0, .qu 0 0, .mn 0] (by kernel_rfl) (by kernel_rfl) ?_
      simp only [go_sem,Nat.reduceAdd,Nat.reduceSub,Nat.reduceMul,Nat.reduceEqDiff,Nat.reduceLeDiff,Nat.reduceLT,↓reduceIte,Int.reduceToNat,reduceCtorEq,Int.reduceLT,Int.reduceLE,Int.reduceGT,Int.reduceGE,Int.reduceEq,Int.reduceNe,Int.reduceNeg,Int.reduceAdd,Int.reduceSub,g1,g2,g3,hs1,hzz,List.length_map,List.getElem?_map,List.length_set,eset,e2]
      have hdel := delete_c (p.l.set (lb a p.l) ⟨y.at_, y.old, y.n - 1⟩) (lb a p.l) (by rw [List.length_set]; exact hlb) (by rw [List.length_set]; omega)
      rw [List.length_set, List.eraseIdx_set_eq] at hdel
      refine rK_use (enters_of Tryz.func59 rfl (by decide)) (hdel.useE [4] (.sl 4 0 (p.l.length - 1) none) [.rows 3 [p.cells], .rows 1 [[iv a]], .rows 3 [[.view false 1 (p.s.perm.map r1), .sl 3 0 p.s.byt.length none, .sl 4 0 p.l.length none]], .rows 1 ((p.s.put a.toNat y.old).byt.map rb), .rows 3 ((p.l.eraseIdx (lb a p.l)).map rp ++ [rz])] (by simp) rfl (by simp) ?_ rfl rfl ?_) ?_
      · simp only [List.map_cons, List.map_nil, bren_rp, List.getElem?_cons_succ, List.getElem?_cons_zero]
      · have : Blk.ren (pi [4] 5) (.rows 3 ((p.l.eraseIdx (lb a p.l)).map rp ++ [rz])) = .rows 3 ((p.l.eraseIdx (lb a p.l)).map rp ++ [rz]) := bren_lt (m := 0) (fun k hk => absurd hk (Nat.not_lt_zero _)) (fun row hr => by
          rcases List.mem_append.1 hr with hr | hr
          · exact rp_lt0 _ row hr
          · rw [List.mem_singleton] at hr; subst hr; rfl)
        simp only [patch, setMany, List.length_cons, List.length_nil, List.drop_succ_cons, List.drop_zero, List.map_cons, List.map_nil, Nat.zero_add, Nat.reduceAdd, this]
        rfl
      have hle : (p.l.eraseIdx (lb a p.l)).length = p.l.length - 1 := by rw [List.length_eraseIdx, if_pos hlb]
      simp only [go_sem,Nat.reduceAdd,Nat.reduceSub,Nat.reduceMul,Nat.reduceEqDiff,Nat.reduceLeDiff,Nat.reduceLT,↓reduceIte,Int.reduceToNat,reduceCtorEq,Int.reduceLT,Int.reduceLE,Int.reduceGT,Int.reduceGE,Int.reduceEq,Int.reduceNe,Int.reduceNeg,Int.reduceAdd,Int.reduceSub,Pd.cells]
      refine up_cell (q := ⟨p.s.put a.toNat y.old, p.l.eraseIdx (lb a p.l)⟩) p.s.byt.length (p.l.length - 1) _ _ (List.take_of_length_le (by simp [Sp.put])) ?_ (by simp [Sp.put]) (by simp [hle]) (rb_lt0 _) ?_ ?_
      · rw [List.take_append_of_le_length (by simp [hle]), List.take_of_length_le (by simp [hle])]
      · intro row hr
        rcases List.mem_append.1 hr with hr | hr
        · exact rp_lt0 _ row hr
        · rw [List.mem_singleton] at hr; subst hr; rfl
      · rw [← hpost]
        exact ⟨rfl, rfl⟩
    · rw [if_neg hn] at hpost
      have hz : ¬ y.n - 1 = 0 := by omega
      simp only [go_sem,Nat.reduceAdd,Nat.reduceSub,Nat.reduceMul,Nat.reduceEqDiff,Nat.reduceLeDiff,Nat.reduceLT,↓reduceIte,Int.reduceToNat,reduceCtorEq,Int.reduceLT,Int.reduceLE,Int.reduceGT,Int.reduceGE,Int.reduceEq,Int.reduceNe,Int.reduceNeg,Int.reduceAdd,Int.reduceSub,eq_false hz]
      refine up_cell (q := ⟨p.s, p.l.set (lb a p.l) ⟨y.at_, y.old, y.n - 1⟩⟩) p.s.byt.length p.l.length _ _ (List.take_of_length_le (by simp)) (List.take_of_length_le (by simp)) (by simp) (by simp) (rb_lt0 _) (rp_lt0 _) ?_
      rw [← hpost]
      exact ⟨rfl, rfl⟩
noncomputable def Pd.remA (p : Pd) (a : Int) : Pd × Int := if p.chk = 0 then p.rem a else (p0, 70)
theorem remA_ok {p : Pd} (h : p.ok) (a : Int) : p.remA a = p.rem a := if_pos (Pd.chk_ok h)
theorem remA_no {p : Pd} (h : ¬ p.ok) (a : Int) : p.remA a = (p0, 70) := if_neg (by rw [Pd.chk_no h]; decide)
theorem rem_p0 (p : Pd) (a : Int) (h0 : (p.remA a).2 ≠ 0) : (p.remA a).1 = p0 := by
  by_cases h : p.ok
  · rw [remA_ok h] at h0 ⊢
    unfold Pd.rem at h0 ⊢
    cases hc : p.cur a with
    | none => rfl
    | some y =>
      rw [hc] at h0
      simp only at h0 ⊢
      split at h0 <;> exact absurd rfl h0
  · rw [remA_no h]
theorem remove1_pan (p : Pd) (a : Int) (h0 : (p.remA a).2 ≠ 0) : ACalls Tryz.prog 56 [.ptr 0 0 0, .ptr 1 0 0, .ptr 2 0 0] [.rows 3 [p.cells], .rows 1 [[iv a]], .rows 3 [pdN]] (fun o H => o = .pan (rfd (p.remA a).2) ∧ H = [.rows 3 [p.cells], .rows 1 [[iv a]], .rows 3 [pdN]]) := by
  refine ACalls.up ?_
  refine ACalls.intro (cs := []) (n := 54) Tryz.func56 rfl rfl rfl (by kernel_rfl) rfl ?_
  generalize hpost : (fun (o : Out) (H : Heap) => o = Out.pan (rfd (p.remA a).2) ∧ H = [.rows 3 [p.cells], .rows 1 [[iv a]], .rows 3 [pdN]]) = post
  have fin : ∀ n, n = (p.remA a).2 → Up 3 post (.pan (rfd n)) [.rows 3 [p.cells], .rows 1 [[iv a]], .rows 3 [pdN]] := fun n h => .done (by rw [← hpost, ← h]; exact ⟨rfl, rfl⟩)
  simp only [go_sem,Nat.reduceAdd,Nat.reduceSub,Nat.reduceMul,Nat.reduceEqDiff,Nat.reduceLeDiff,Nat.reduceLT,↓reduceIte,Int.reduceToNat,reduceCtorEq,Int.reduceLT,Int.reduceLE,Int.reduceGT,Int.reduceGE,Int.reduceEq,Int.reduceNe,Int.reduceNeg,Int.reduceAdd,Int.reduceSub,Pd.cells,pdN]
  refine rK_use (enters_of Tryz.func25 rfl (by decide)) (ACalls.pure_use (pcheck_c p) rfl rfl) ?_
  by_cases h : p.ok
  rotate_left
  · rw [Pd.chk_no h]
    simp only [go_sem,Nat.reduceAdd,Nat.reduceSub,Nat.reduceMul,Nat.reduceEqDiff,Nat.reduceLeDiff,Nat.reduceLT,↓reduceIte,Int.reduceToNat,reduceCtorEq,Int.reduceLT,Int.reduceLE,Int.reduceGT,Int.reduceGE,Int.reduceEq,Int.reduceNe,Int.reduceNeg,Int.reduceAdd,Int.reduceSub]
    refine rK_pans (enters_of Tryz.func57 rfl (by decide)) (ACalls.pure_pan (pmust_no 70 (by decide)) rfl rfl) ?_
    simp only [go_sem,Nat.reduceAdd,Nat.reduceSub,Nat.reduceMul,Nat.reduceEqDiff,Nat.reduceLeDiff,Nat.reduceLT,↓reduceIte,Int.reduceToNat,reduceCtorEq,Int.reduceLT,Int.reduceLE,Int.reduceGT,Int.reduceGE,Int.reduceEq,Int.reduceNe,Int.reduceNeg,Int.reduceAdd,Int.reduceSub]
    exact fin 70 (by rw [remA_no h])
  have hl := h.len
  rw [Pd.chk_ok h]
  simp only [go_sem,Nat.reduceAdd,Nat.reduceSub,Nat.reduceMul,Nat.reduceEqDiff,Nat.reduceLeDiff,Nat.reduceLT,↓reduceIte,Int.reduceToNat,reduceCtorEq,Int.reduceLT,Int.reduceLE,Int.reduceGT,Int.reduceGE,Int.reduceEq,Int.reduceNe,Int.reduceNeg,Int.reduceAdd,Int.reduceSub]
  refine rK_use (enters_of Tryz.func57 rfl (by decide)) (ACalls.pure_use (pmust_ok) rfl rfl) ?_
  simp only [go_sem,Nat.reduceAdd,Nat.reduceSub,Nat.reduceMul,Nat.reduceEqDiff,Nat.reduceLeDiff,Nat.reduceLT,↓reduceIte,Int.reduceToNat,reduceCtorEq,Int.reduceLT,Int.reduceLE,Int.reduceGT,Int.reduceGE,Int.reduceEq,Int.reduceNe,Int.reduceNeg,Int.reduceAdd,Int.reduceSub]
  refine rK_use (enters_of Tryz.func48 rfl (by decide)) (ACalls.pure_use (find_c p.l h.sor (by omega) a) rfl rfl) ?_
  rw [fnd_cur]
  rw [remA_ok h] at h0 fin
  unfold Pd.rem at h0 fin
  cases hc : p.cur a with
  | none =>
    rw [hc] at fin
    simp only [go_sem,Nat.reduceAdd,Nat.reduceSub,Nat.reduceMul,Nat.reduceEqDiff,Nat.reduceLeDiff,Nat.reduceLT,↓reduceIte,Int.reduceToNat,reduceCtorEq,Int.reduceLT,Int.reduceLE,Int.reduceGT,Int.reduceGE,Int.reduceEq,Int.reduceNe,Int.reduceNeg,Int.reduceAdd,Int.reduceSub,Option.isSome_none]
    refine rK_pans (enters_of Tryz.func57 rfl (by decide)) (ACalls.pure_pan (pmust_no 3 (by decide)) rfl rfl) ?_
    simp only [go_sem,Nat.reduceAdd,Nat.reduceSub,Nat.reduceMul,Nat.reduceEqDiff,Nat.reduceLeDiff,Nat.reduceLT,↓reduceIte,Int.reduceToNat,reduceCtorEq,Int.reduceLT,Int.reduceLE,Int.reduceGT,Int.reduceGE,Int.reduceEq,Int.reduceNe,Int.reduceNeg,Int.reduceAdd,Int.reduceSub]
    exact fin 3 rfl
  | some y =>
    rw [hc] at h0
    simp only at h0
    split at h0 <;> exact absurd rfl h0
theorem Remove_c (p : Pd) (a : Int) : ACalls Tryz.prog 19 [p.av, iv a] [] (fun o H => o = .ret (.tuple [(p.remA a).1.av, iv (p.remA a).2]) ∧ H = []) := by
  refine ACalls.up ?_
  refine ACalls.intro (cs := []) (n := 13) Tryz.func19 rfl rfl rfl (by kernel_rfl) rfl ?_
  generalize hpost : (fun (o : Out) (H : Heap) => o = Out.ret (.tuple [(p.remA a).1.av, iv (p.remA a).2]) ∧ H = []) = post
  simp only [go_sem,Nat.reduceAdd,Nat.reduceSub,Nat.reduceMul,Nat.reduceEqDiff,Nat.reduceLeDiff,Nat.reduceLT,↓reduceIte,Int.reduceToNat,reduceCtorEq,Int.reduceLT,Int.reduceLE,Int.reduceGT,Int.reduceGE,Int.reduceEq,Int.reduceNe,Int.reduceNeg,Int.reduceAdd,Int.reduceSub,Pd.av]
  by_cases h0 : (p.remA a).2 = 0
  · have hp : p.ok := Classical.byContradiction fun h => by rw [remA_no h] at h0; cases h0
    have e := remA_ok hp a
    have hcl := remove1_ok p hp a (by rw [← e]; exact h0)
    rw [← e] at hcl
    refine rK_use (enters_of Tryz.func40 rfl (by decide)) (caught_ret (enters_of Tryz.func56 rfl (by decide)) hcl rfl (by simp [Blk.lt, ltL, AV.lt, Pd.cells, pdN]) (by simp [Blk.lt, ltL, AV.lt, Pd.cells]) rfl) ?_
    simp only [go_sem,Nat.reduceAdd,Nat.reduceSub,Nat.reduceMul,Nat.reduceEqDiff,Nat.reduceLeDiff,Nat.reduceLT,↓reduceIte,Int.reduceToNat,reduceCtorEq,Int.reduceLT,Int.reduceLE,Int.reduceGT,Int.reduceGE,Int.reduceEq,Int.reduceNe,Int.reduceNeg,Int.reduceAdd,Int.reduceSub,Pd.cells]
    refine finv rfl ?_ _
    rw [← hpost, h0]
    exact ⟨rfl, rfl⟩
  · refine rK_use (enters_of Tryz.func40 rfl (by decide)) (caught_pan (p.remA a).2 (enters_of Tryz.func56 rfl (by decide)) (remove1_pan p a h0) rfl (by simp [Blk.lt, ltL, AV.lt, Pd.cells, pdN]) (by simp [Blk.lt, ltL, AV.lt, Pd.cells, pdN]) rfl) ?_
    simp only [go_sem,Nat.reduceAdd,Nat.reduceSub,Nat.reduceMul,Nat.reduceEqDiff,Nat.reduceLeDiff,Nat.reduceLT,↓reduceIte,Int.reduceToNat,reduceCtorEq,Int.reduceLT,Int.reduceLE,Int.reduceGT,Int.reduceGE,Int.reduceEq,Int.reduceNe,Int.reduceNeg,Int.reduceAdd,Int.reduceSub,Pd.cells,pdN,eq_false h0]
    refine .le (.ret (.tuple (.cons pdN_le (.cons (.refl _) .nil)))) (LeH.refl _) (finv rfl ?_ _)
    rw [← hpost, rem_p0 p a h0]
    exact ⟨rfl, rfl⟩
end Go.Proofs.YtfiflailjbmlpaaGreatDoor
set_option maxRecDepth 100000
set_option linter.unusedVariables false
set_option linter.unusedSimpArgs false
namespace Go.Proofs.YtfiflailjbmlpaaGreatDoor
open Go.AM
theorem has_cur {p : Pd} (hs : Srt p.l) (a : Int) : p.has a = (p.cur a).isSome := by
  cases hc : p.cur a with
  | none => exact (Pd.cur_none hs).1 hc
  | some y =>
    have := (Pd.cur_some hs).1 hc
    exact Pd.has_true.2 ⟨y, this.1, this.2⟩
theorem pstep_c (p : Pd) (h : p.ok) (r : Rg) (hr : r.wf) (slot : Int) (hs : I64 slot) : ACalls Tryz.prog 42 [p.av, r.av, iv slot] [] (fun o H => o = .ret (.tuple [(p.stepE r slot).1.av, iv (p.stepE r slot).2]) ∧ H = []) := by
  refine ACalls.up ?_
  refine ACalls.intro (cs := []) (n := 131) Tryz.func42 rfl rfl rfl (by kernel_rfl) rfl ?_
  generalize hpost : (fun (o : Out) (H : Heap) => o = Out.ret (.tuple [(p.stepE r slot).1.av, iv (p.stepE r slot).2]) ∧ H = []) = post
  have fin : ∀ (e : Eff) n H, (e, n) = p.stepE r slot → Up 0 post (.ret (.tuple [.agg e.cells, iv n])) H := fun e n H h => finv (by simp [AV.lt, ltL, Eff.cells, Eff.cellsD]) (by rw [← hpost, ← h]; exact ⟨rfl, rfl⟩) H
  have hl := h.len
  simp only [go_sem,Nat.reduceAdd,Nat.reduceSub,Nat.reduceMul,Nat.reduceEqDiff,Nat.reduceLeDiff,Nat.reduceLT,↓reduceIte,Int.reduceToNat,reduceCtorEq,Int.reduceLT,Int.reduceLE,Int.reduceGT,Int.reduceGE,Int.reduceEq,Int.reduceNe,Int.reduceNeg,Int.reduceAdd,Int.reduceSub,Pd.av,Rg.av,Rg.cells]
  refine rK_use (enters_of Tryz.func25 rfl (by decide)) (ACalls.pure_use (pcheck_c p) rfl rfl) ?_
  rw [Pd.chk_ok h]
  simp only [go_sem,Nat.reduceAdd,Nat.reduceSub,Nat.reduceMul,Nat.reduceEqDiff,Nat.reduceLeDiff,Nat.reduceLT,↓reduceIte,Int.reduceToNat,reduceCtorEq,Int.reduceLT,Int.reduceLE,Int.reduceGT,Int.reduceGE,Int.reduceEq,Int.reduceNe,Int.reduceNeg,Int.reduceAdd,Int.reduceSub]
  refine rK_use (enters_of Tryz.func57 rfl (by decide)) (ACalls.pure_use (pmust_ok) rfl rfl) ?_
  simp only [go_sem,Nat.reduceAdd,Nat.reduceSub,Nat.reduceMul,Nat.reduceEqDiff,Nat.reduceLeDiff,Nat.reduceLT,↓reduceIte,Int.reduceToNat,reduceCtorEq,Int.reduceLT,Int.reduceLE,Int.reduceGT,Int.reduceGE,Int.reduceEq,Int.reduceNe,Int.reduceNeg,Int.reduceAdd,Int.reduceSub]
  refine rK_use (enters_of Tryz.func48 rfl (by decide)) (ACalls.pure_use (find_c p.l h.sor (by omega) r.pc) rfl rfl) ?_
  rw [fnd_cur]
  cases hc : p.cur r.pc with
  | none =>
    simp only [go_sem,Nat.reduceAdd,Nat.reduceSub,Nat.reduceMul,Nat.reduceEqDiff,Nat.reduceLeDiff,Nat.reduceLT,↓reduceIte,Int.reduceToNat,reduceCtorEq,Int.reduceLT,Int.reduceLE,Int.reduceGT,Int.reduceGE,Int.reduceEq,Int.reduceNe,Int.reduceNeg,Int.reduceAdd,Int.reduceSub,Option.isSome_none]
    refine rK_use (enters_of Tryz.func35 rfl (by decide)) (ACalls.pure_use (Step_c p.s h.sok r hr) rfl rfl) ?_
    simp only [go_sem,Nat.reduceAdd,Nat.reduceSub,Nat.reduceMul,Nat.reduceEqDiff,Nat.reduceLeDiff,Nat.reduceLT,↓reduceIte,Int.reduceToNat,reduceCtorEq,Int.reduceLT,Int.reduceLE,Int.reduceGT,Int.reduceGE,Int.reduceEq,Int.reduceNe,Int.reduceNeg,Int.reduceAdd,Int.reduceSub,Eff.av,Eff.cells,Eff.cellsD]
    refine rK_use (enters_of Tryz.func57 rfl (by decide)) (ACalls.pure_use (pmust_ok) rfl rfl) ?_
    simp only [go_sem,Nat.reduceAdd,Nat.reduceSub,Nat.reduceMul,Nat.reduceEqDiff,Nat.reduceLeDiff,Nat.reduceLT,↓reduceIte,Int.reduceToNat,reduceCtorEq,Int.reduceLT,Int.reduceLE,Int.reduceGT,Int.reduceGE,Int.reduceEq,Int.reduceNe,Int.reduceNeg,Int.reduceAdd,Int.reduceSub]
    exact fin (step p.s r) 0 _ (by rw [Pd.stepE, has_cur h.sor, hc, Option.isSome_none, if_neg (by decide)])
  | some y =>
    have hmem := (Pd.cur_some h.sor).1 hc
    have hst : (stand p.clean r.pc).e = 0 := by rw [← hmem.2]; exact h.std y hmem.1
    have hxo : (stand p.clean r.pc).x.ok := dec_ok hst
    simp only [go_sem,Nat.reduceAdd,Nat.reduceSub,Nat.reduceMul,Nat.reduceEqDiff,Nat.reduceLeDiff,Nat.reduceLT,↓reduceIte,Int.reduceToNat,reduceCtorEq,Int.reduceLT,Int.reduceLE,Int.reduceGT,Int.reduceGE,Int.reduceEq,Int.reduceNe,Int.reduceNeg,Int.reduceAdd,Int.reduceSub,Option.isSome_some]
    have hfi : p.stepE r slot = (if (dispE (stand p.clean r.pc).x r.pc slot).2 = 3 then (exec (stand p.clean r.pc).x p.s r, 3)
        else (fixE (stand p.clean r.pc).x (stand p.clean r.pc).n r.pc slot (exec (dispE (stand p.clean r.pc).x r.pc slot).1 p.s (r.at' slot)), (dispE (stand p.clean r.pc).x r.pc slot).2)) := by
      rw [Pd.stepE, has_cur h.sor, hc, Option.isSome_some, if_pos rfl]
    have hdo := disp_ok hxo r.pc slot
    refine draw [.rd 0 1, .qu 0 1, .qu 0 1, .rd 0 1, .qu 0 1, .qu 0 1, .qu 0 1, .qu 0 2, .mn 0, .mn 1, .qu 2 2] (by kernel_rfl) (by kernel_rfl) ?_
    simp only [go_sem,Nat.reduceAdd,Nat.reduceSub,Nat.reduceMul,Nat.reduceEqDiff,Nat.reduceLeDiff,Nat.reduceLT,↓reduceIte,Int.reduceToNat,reduceCtorEq,Int.reduceLT,Int.reduceLE,Int.reduceGT,Int.reduceGE,Int.reduceEq,Int.reduceNe,Int.reduceNeg,Int.reduceAdd,Int.reduceSub]
    refine y_call (enters_of Tryz.func50 rfl (by decide)) (fun _ => ACalls.pure_use (clean_c p h.fit h.bounds) rfl rfl) ?_
    simp only [go_sem,Nat.reduceAdd,Nat.reduceSub,Nat.reduceMul,Nat.reduceEqDiff,Nat.reduceLeDiff,Nat.reduceLT,↓reduceIte,Int.reduceToNat,reduceCtorEq,Int.reduceLT,Int.reduceLE,Int.reduceGT,Int.reduceGE,Int.reduceEq,Int.reduceNe,Int.reduceNeg,Int.reduceAdd,Int.reduceSub,Sp.av]
    refine y_call (enters_of Tryz.func49 rfl (by decide)) (fun _ => ACalls.pure_use (standing_c p.clean h.cok r.pc) rfl (by simp [sitC, Ins.cells, AV.lt, ltL])) ?_
    simp only [go_sem,Nat.reduceAdd,Nat.reduceSub,Nat.reduceMul,Nat.reduceEqDiff,Nat.reduceLeDiff,Nat.reduceLT,↓reduceIte,Int.reduceToNat,reduceCtorEq,Int.reduceLT,Int.reduceLE,Int.reduceGT,Int.reduceGE,Int.reduceEq,Int.reduceNe,Int.reduceNeg,Int.reduceAdd,Int.reduceSub,sitC,Ins.cells]
    generalize stand p.clean r.pc = D at *
    refine rK_use (enters_of Tryz.func52 rfl (by decide)) (ACalls.pure_use (displaced_c D.x r.pc slot) rfl rfl) ?_
    generalize dispE D.x r.pc slot = E at *
    simp only [go_sem,Nat.reduceAdd,Nat.reduceSub,Nat.reduceMul,Nat.reduceEqDiff,Nat.reduceLeDiff,Nat.reduceLT,↓reduceIte,Int.reduceToNat,reduceCtorEq,Int.reduceLT,Int.reduceLE,Int.reduceGT,Int.reduceGE,Int.reduceEq,Int.reduceNe,Int.reduceNeg,Int.reduceAdd,Int.reduceSub,Ins.av,Ins.cells]
    rcases Decidable.em (E.2 = 3) with h3 | h3
    · simp only [go_sem,Nat.reduceAdd,Nat.reduceSub,Nat.reduceMul,Nat.reduceEqDiff,Nat.reduceLeDiff,Nat.reduceLT,↓reduceIte,Int.reduceToNat,reduceCtorEq,Int.reduceLT,Int.reduceLE,Int.reduceGT,Int.reduceGE,Int.reduceEq,Int.reduceNe,Int.reduceNeg,Int.reduceAdd,Int.reduceSub,eq_true h3]
      refine rK_use (enters_of Tryz.func80 rfl (by decide)) (ACalls.pure_use (Exec_c D.x hxo p.s h.sok r hr) rfl rfl) ?_
      simp only [go_sem,Nat.reduceAdd,Nat.reduceSub,Nat.reduceMul,Nat.reduceEqDiff,Nat.reduceLeDiff,Nat.reduceLT,↓reduceIte,Int.reduceToNat,reduceCtorEq,Int.reduceLT,Int.reduceLE,Int.reduceGT,Int.reduceGE,Int.reduceEq,Int.reduceNe,Int.reduceNeg,Int.reduceAdd,Int.reduceSub,Eff.av,Eff.cells,Eff.cellsD]
      refine rK_use (enters_of Tryz.func57 rfl (by decide)) (ACalls.pure_use (pmust_ok) rfl rfl) ?_
      simp only [go_sem,Nat.reduceAdd,Nat.reduceSub,Nat.reduceMul,Nat.reduceEqDiff,Nat.reduceLeDiff,Nat.reduceLT,↓reduceIte,Int.reduceToNat,reduceCtorEq,Int.reduceLT,Int.reduceLE,Int.reduceGT,Int.reduceGE,Int.reduceEq,Int.reduceNe,Int.reduceNeg,Int.reduceAdd,Int.reduceSub]
      exact fin (exec D.x p.s r) E.2 _ (by rw [hfi, if_pos h3, h3])
    · rw [if_neg h3] at hfi
      simp only [go_sem,Nat.reduceAdd,Nat.reduceSub,Nat.reduceMul,Nat.reduceEqDiff,Nat.reduceLeDiff,Nat.reduceLT,↓reduceIte,Int.reduceToNat,reduceCtorEq,Int.reduceLT,Int.reduceLE,Int.reduceGT,Int.reduceGE,Int.reduceEq,Int.reduceNe,Int.reduceNeg,Int.reduceAdd,Int.reduceSub,eq_false h3]
      refine rK_use (enters_of Tryz.func80 rfl (by decide)) (ACalls.pure_use (Exec_c E.1 hdo p.s h.sok (r.at' slot) ⟨hr.reg, hs⟩) rfl rfl) ?_
      generalize exec E.1 p.s (r.at' slot) = F at *
      simp only [go_sem,Nat.reduceAdd,Nat.reduceSub,Nat.reduceMul,Nat.reduceEqDiff,Nat.reduceLeDiff,Nat.reduceLT,↓reduceIte,Int.reduceToNat,reduceCtorEq,Int.reduceLT,Int.reduceLE,Int.reduceGT,Int.reduceGE,Int.reduceEq,Int.reduceNe,Int.reduceNeg,Int.reduceAdd,Int.reduceSub,Eff.av,Eff.cells,Eff.cellsD]
      refine rK_use (enters_of Tryz.func57 rfl (by decide)) (ACalls.pure_use (pmust_ok) rfl rfl) ?_
      simp only [go_sem,Nat.reduceAdd,Nat.reduceSub,Nat.reduceMul,Nat.reduceEqDiff,Nat.reduceLeDiff,Nat.reduceLT,↓reduceIte,Int.reduceToNat,reduceCtorEq,Int.reduceLT,Int.reduceLE,Int.reduceGT,Int.reduceGE,Int.reduceEq,Int.reduceNe,Int.reduceNeg,Int.reduceAdd,Int.reduceSub]
      refine condD_dec (fun hk => ?_) (fun hk => ?_)
      · simp only [go_sem,Nat.reduceAdd,Nat.reduceSub,Nat.reduceMul,Nat.reduceEqDiff,Nat.reduceLeDiff,Nat.reduceLT,↓reduceIte,Int.reduceToNat,reduceCtorEq,Int.reduceLT,Int.reduceLE,Int.reduceGT,Int.reduceGE,Int.reduceEq,Int.reduceNe,Int.reduceNeg,Int.reduceAdd,Int.reduceSub]
        have e : fixE D.x D.n r.pc slot F = ⟨F.rg.at' r.pc, F.pos, F.data, F.trap, D.x⟩ := by rw [fixE, if_pos hk]
        rw [e] at hfi
        exact fin ⟨F.rg.at' r.pc, F.pos, F.data, F.trap, D.x⟩ E.2 _ hfi.symm
      · have same : ¬ ((D.x.op ≠ 26 ∧ D.x.op ≠ 29) ∧ F.rg.pc = iw .i64 (slot + D.n)) → (⟨F.rg, F.pos, F.data, F.trap, D.x⟩, E.2) = p.stepE r slot := fun hn => by
          rw [hfi, fixE, if_neg hk, if_neg hn]
          rfl
        rcases Decidable.em (D.x.op = 26) with q1 | q1
        · simp only [go_sem,Nat.reduceAdd,Nat.reduceSub,Nat.reduceMul,Nat.reduceEqDiff,Nat.reduceLeDiff,Nat.reduceLT,↓reduceIte,Int.reduceToNat,reduceCtorEq,Int.reduceLT,Int.reduceLE,Int.reduceGT,Int.reduceGE,Int.reduceEq,Int.reduceNe,Int.reduceNeg,Int.reduceAdd,Int.reduceSub,eq_true q1]
          exact fin ⟨F.rg, F.pos, F.data, F.trap, D.x⟩ E.2 _ (same fun h => h.1.1 q1)
        rcases Decidable.em (D.x.op = 29) with q2 | q2
        · simp only [go_sem,Nat.reduceAdd,Nat.reduceSub,Nat.reduceMul,Nat.reduceEqDiff,Nat.reduceLeDiff,Nat.reduceLT,↓reduceIte,Int.reduceToNat,reduceCtorEq,Int.reduceLT,Int.reduceLE,Int.reduceGT,Int.reduceGE,Int.reduceEq,Int.reduceNe,Int.reduceNeg,Int.reduceAdd,Int.reduceSub,eq_false q1,eq_true q2]
          exact fin ⟨F.rg, F.pos, F.data, F.trap, D.x⟩ E.2 _ (same fun h => h.1.2 q2)
        rcases Decidable.em (F.rg.pc = iw .i64 (slot + D.n)) with q3 | q3
        · simp only [go_sem,Nat.reduceAdd,Nat.reduceSub,Nat.reduceMul,Nat.reduceEqDiff,Nat.reduceLeDiff,Nat.reduceLT,↓reduceIte,Int.reduceToNat,reduceCtorEq,Int.reduceLT,Int.reduceLE,Int.reduceGT,Int.reduceGE,Int.reduceEq,Int.reduceNe,Int.reduceNeg,Int.reduceAdd,Int.reduceSub,eq_false q1,eq_false q2,eq_true q3]
          exact fin ⟨F.rg.at' (iw .i64 (r.pc + D.n)), F.pos, F.data, F.trap, D.x⟩ E.2 _ (by rw [hfi, fixE, if_neg hk, if_pos ⟨⟨q1, q2⟩, q3⟩])
        · simp only [go_sem,Nat.reduceAdd,Nat.reduceSub,Nat.reduceMul,Nat.reduceEqDiff,Nat.reduceLeDiff,Nat.reduceLT,↓reduceIte,Int.reduceToNat,reduceCtorEq,Int.reduceLT,Int.reduceLE,Int.reduceGT,Int.reduceGE,Int.reduceEq,Int.reduceNe,Int.reduceNeg,Int.reduceAdd,Int.reduceSub,eq_false q1,eq_false q2,eq_false q3]
          exact fin ⟨F.rg, F.pos, F.data, F.trap, D.x⟩ E.2 _ (same fun h => q3 h.2)
theorem PStep_c (p : Pd) (h : p.ok) (r : Rg) (hr : r.wf) (slot : Int) (hs : I64 slot) : ACalls Tryz.prog 11 [p.av, r.av, iv slot] [] (fun o H => o = .ret (.tuple [(p.stepE r slot).1.av, iv (p.stepE r slot).2, iv 0]) ∧ H = []) := by
  refine ACalls.up ?_
  refine ACalls.intro (cs := []) (n := 17) Tryz.func11 rfl rfl rfl (by kernel_rfl) rfl ?_
  generalize hpost : (fun (o : Out) (H : Heap) => o = Out.ret (.tuple [(p.stepE r slot).1.av, iv (p.stepE r slot).2, iv 0]) ∧ H = []) = post
  simp only [go_sem,Nat.reduceAdd,Nat.reduceSub,Nat.reduceMul,Nat.reduceEqDiff,Nat.reduceLeDiff,Nat.reduceLT,↓reduceIte,Int.reduceToNat,reduceCtorEq,Int.reduceLT,Int.reduceLE,Int.reduceGT,Int.reduceGE,Int.reduceEq,Int.reduceNe,Int.reduceNeg,Int.reduceAdd,Int.reduceSub,Pd.av,Rg.av,Rg.cells]
  have hcl : ACalls Tryz.prog 41 [.ptr 0 0 0, .ptr 1 0 0, .ptr 2 0 0, .ptr 3 0 0, .ptr 4 0 0] [.rows 3 [p.cells], .rows 9 [r.cells], .rows 1 [[iv slot]], .rows 19 [eff0.cellsD dnil], .rows 1 [[iv 0]]] (fun o H => o = .ret (.tuple []) ∧ H = [.rows 3 [p.cells], .rows 9 [r.cells], .rows 1 [[iv slot]], .rows 19 [(p.stepE r slot).1.cells], .rows 1 [[iv (p.stepE r slot).2]]]) := by
    refine ACalls.up ?_
    refine ACalls.intro (cs := []) (n := 12) Tryz.func41 rfl rfl rfl (by kernel_rfl) rfl ?_
    simp only [go_sem,Nat.reduceAdd,Nat.reduceSub,Nat.reduceMul,Nat.reduceEqDiff,Nat.reduceLeDiff,Nat.reduceLT,↓reduceIte,Int.reduceToNat,reduceCtorEq,Int.reduceLT,Int.reduceLE,Int.reduceGT,Int.reduceGE,Int.reduceEq,Int.reduceNe,Int.reduceNeg,Int.reduceAdd,Int.reduceSub,Pd.cells,Rg.cells,Eff.cellsD,eff0]
    refine rK_use (enters_of Tryz.func42 rfl (by decide)) (ACalls.pure_use (pstep_c p h r hr slot hs) rfl rfl) ?_
    generalize p.stepE r slot = E at *
    simp only [go_sem,Nat.reduceAdd,Nat.reduceSub,Nat.reduceMul,Nat.reduceEqDiff,Nat.reduceLeDiff,Nat.reduceLT,↓reduceIte,Int.reduceToNat,reduceCtorEq,Int.reduceLT,Int.reduceLE,Int.reduceGT,Int.reduceGE,Int.reduceEq,Int.reduceNe,Int.reduceNeg,Int.reduceAdd,Int.reduceSub,Eff.av,Eff.cells,Eff.cellsD]
    exact .done ⟨rfl, rfl⟩
  refine rK_use (enters_of Tryz.func40 rfl (by decide)) (caught_ret (enters_of Tryz.func41 rfl (by decide)) hcl rfl (by simp [Blk.lt, ltL, AV.lt, Pd.cells, Rg.cells, Eff.cellsD]) (by simp [Blk.lt, ltL, AV.lt, Pd.cells, Rg.cells, Eff.cells, Eff.cellsD]) rfl) ?_
  generalize p.stepE r slot = E at *
  simp only [go_sem,Nat.reduceAdd,Nat.reduceSub,Nat.reduceMul,Nat.reduceEqDiff,Nat.reduceLeDiff,Nat.reduceLT,↓reduceIte,Int.reduceToNat,reduceCtorEq,Int.reduceLT,Int.reduceLE,Int.reduceGT,Int.reduceGE,Int.reduceEq,Int.reduceNe,Int.reduceNeg,Int.reduceAdd,Int.reduceSub,Eff.cells,Eff.cellsD]
  refine draw [.qu 0 0, .rd 0 1, .mn 0, .mn 1, .qu 2 2] (by kernel_rfl) (by kernel_rfl) ?_
  simp only [go_sem,Nat.reduceAdd,Nat.reduceSub,Nat.reduceMul,Nat.reduceEqDiff,Nat.reduceLeDiff,Nat.reduceLT,↓reduceIte,Int.reduceToNat,reduceCtorEq,Int.reduceLT,Int.reduceLE,Int.reduceGT,Int.reduceGE,Int.reduceEq,Int.reduceNe,Int.reduceNeg,Int.reduceAdd,Int.reduceSub]
  refine finv (by simp [AV.lt, ltL]) ?_ _
  rw [← hpost]
  exact ⟨rfl, rfl⟩
end Go.Proofs.YtfiflailjbmlpaaGreatDoor
set_option maxRecDepth 100000
set_option linter.unusedVariables false
set_option linter.unusedSimpArgs false
namespace Go.Proofs.YtfiflailjbmlpaaGreatDoor
open Go.AM
def twoP : Pd := ⟨⟨[4, 3], [144, 0, 1, 153, 122, 127, 155, 10, 0] ++ List.replicate 119 0⟩, []⟩
theorem two_c : ACalls Tryz.prog 39 [] [] (fun o H => o = .ret twoP.av ∧ H = []) := by
  refine ACalls.up ?_
  refine ACalls.intro (cs := []) (n := 8) Tryz.func39 rfl rfl rfl (by kernel_rfl) rfl ?_
  generalize hpost : (fun (o : Out) (H : Heap) => o = Out.ret twoP.av ∧ H = []) = post
  simp only [go_sem,Nat.reduceAdd,Nat.reduceSub,Nat.reduceMul,Nat.reduceEqDiff,Nat.reduceLeDiff,Nat.reduceLT,↓reduceIte,Int.reduceToNat,reduceCtorEq,Int.reduceLT,Int.reduceLE,Int.reduceGT,Int.reduceGE,Int.reduceEq,Int.reduceNe,Int.reduceNeg,Int.reduceAdd,Int.reduceSub]
  refine .le (o' := .ret (.agg [.sl 3 0 2 (some 2), .sl 2 0 128 none, .view false 3 []])) (.ret (.agg (.cons (.refl _) (.cons (.refl _) (.cons (.nil true false 0 3 (by simp)) .nil))))) (LeH.refl _) ?_
  refine up_two 3 1 (twoP.s.perm.map r1) 2 1 (twoP.s.byt.map rb) (by decide) rfl rfl (r1_lt0 _) (rb_lt0 _) ?_ ?_ ?_ ?_
  · simp [Out.fzOk, AV.fzOk, fzOkL, twoP]
  · simp [Out.fzOk, Out.fz, AV.fz, fzL, AV.fzOk, fzOkL, twoP]
  · rfl
  · rw [← hpost]
    exact ⟨rfl, rfl⟩
theorem two_ok : twoP.ok := ⟨by decide, by decide, List.Pairwise.nil, (fun x h => by cases h), (fun x h => by cases h)⟩
def p1P : Pd := ⟨twoP.s.put 0 204, [⟨0, 144, 1⟩]⟩
def p2P : Pd := ⟨twoP.s.put 0 204, [⟨0, 144, 2⟩]⟩
theorem I64z : I64 0 := by unfold I64; omega
theorem it1 : twoP.inst 0 = (p1P, 0) := by kernel_rfl
theorem it2 : twoP.inst 1 = (p0, 71) := by kernel_rfl
theorem it3 : p1P.inst 0 = (p2P, 0) := by kernel_rfl
theorem it4 : p2P.rem 0 = (p1P, 0) := by kernel_rfl
theorem it5 : p1P.rem 0 = (twoP, 0) := by kernel_rfl
theorem p1_ok : p1P.ok := by
  obtain ⟨z, h, _⟩ := inst_ok two_ok I64z (by rw [it1])
  rw [it1] at h
  exact h.ok
theorem p2_ok : p2P.ok := by
  obtain ⟨z, h, _⟩ := inst_ok p1_ok I64z (by rw [it3])
  rw [it3] at h
  exact h.ok
theorem instA_ok {p : Pd} (h : p.ok) (a : Int) : p.instA a = p.inst a := if_pos h
def rgP : Rg := ⟨4, 0, 0, 0, 0, 0, 0, 0, 0⟩
theorem sane_c : ACalls Tryz.prog 10 [] [] (fun o H => o = .ret (.bool true) ∧ H = []) := by
  refine ACalls.up ?_
  refine ACalls.intro (cs := []) (n := 178) Tryz.func10 rfl rfl rfl (by kernel_rfl) rfl ?_
  generalize hpost : (fun (o : Out) (H : Heap) => o = Out.ret (.bool true) ∧ H = []) = post
  obtain ⟨E, hE, s1, s2, s3, s4⟩ : ∃ E, p1P.stepE rgP 1000 = E ∧ E.2 = 1 ∧ E.1.rg.r0 = 5 ∧ E.1.rg.pc = 3 ∧ E.1.x.op = 16 := ⟨_, rfl, by kernel_rfl, by kernel_rfl, by kernel_rfl, by kernel_rfl⟩
  have hwf : rgP.wf := wf0 (by decide)
  simp only [go_sem,Nat.reduceAdd,Nat.reduceSub,Nat.reduceMul,Nat.reduceEqDiff,Nat.reduceLeDiff,Nat.reduceLT,↓reduceIte,Int.reduceToNat,reduceCtorEq,Int.reduceLT,Int.reduceLE,Int.reduceGT,Int.reduceGE,Int.reduceEq,Int.reduceNe,Int.reduceNeg,Int.reduceAdd,Int.reduceSub]
  refine rK_use (enters_of Tryz.func39 rfl (by decide)) (ACalls.pure_use (two_c) rfl rfl) ?_
  simp only [go_sem,Nat.reduceAdd,Nat.reduceSub,Nat.reduceMul,Nat.reduceEqDiff,Nat.reduceLeDiff,Nat.reduceLT,↓reduceIte,Int.reduceToNat,reduceCtorEq,Int.reduceLT,Int.reduceLE,Int.reduceGT,Int.reduceGE,Int.reduceEq,Int.reduceNe,Int.reduceNeg,Int.reduceAdd,Int.reduceSub]
  refine rK_use (enters_of Tryz.func18 rfl (by decide)) (ACalls.pure_use (Install_c twoP 0 I64z) rfl rfl) ?_
  rw [instA_ok two_ok, it1]
  simp only [go_sem,Nat.reduceAdd,Nat.reduceSub,Nat.reduceMul,Nat.reduceEqDiff,Nat.reduceLeDiff,Nat.reduceLT,↓reduceIte,Int.reduceToNat,reduceCtorEq,Int.reduceLT,Int.reduceLE,Int.reduceGT,Int.reduceGE,Int.reduceEq,Int.reduceNe,Int.reduceNeg,Int.reduceAdd,Int.reduceSub,Pd.av]
  refine rK_use (enters_of Tryz.func39 rfl (by decide)) (ACalls.pure_use (two_c) rfl rfl) ?_
  simp only [go_sem,Nat.reduceAdd,Nat.reduceSub,Nat.reduceMul,Nat.reduceEqDiff,Nat.reduceLeDiff,Nat.reduceLT,↓reduceIte,Int.reduceToNat,reduceCtorEq,Int.reduceLT,Int.reduceLE,Int.reduceGT,Int.reduceGE,Int.reduceEq,Int.reduceNe,Int.reduceNeg,Int.reduceAdd,Int.reduceSub]
  refine rK_use (enters_of Tryz.func18 rfl (by decide)) (ACalls.pure_use (Install_c twoP 1 (by unfold I64; omega)) rfl rfl) ?_
  rw [instA_ok two_ok, it2]
  have f1 : p1P.l.map rp = [[iv 0, .int .u8 144, iv 1]] := rfl
  have f2 : (p1P.s.byt.map rb).length = 128 := rfl
  have f3 : (p1P.s.byt.map rb)[0]? = some [.int .u8 204] := rfl
  simp only [go_sem,Nat.reduceAdd,Nat.reduceSub,Nat.reduceMul,Nat.reduceEqDiff,Nat.reduceLeDiff,Nat.reduceLT,↓reduceIte,Int.reduceToNat,reduceCtorEq,Int.reduceLT,Int.reduceLE,Int.reduceGT,Int.reduceGE,Int.reduceEq,Int.reduceNe,Int.reduceNeg,Int.reduceAdd,Int.reduceSub,Pd.av,f1,f2,f3,E92]
  refine rK_use (enters_of Tryz.func18 rfl (by decide)) (ACalls.pure_use (Install_c p1P 0 I64z) rfl rfl) ?_
  rw [instA_ok p1_ok, it3]
  simp only [go_sem,Nat.reduceAdd,Nat.reduceSub,Nat.reduceMul,Nat.reduceEqDiff,Nat.reduceLeDiff,Nat.reduceLT,↓reduceIte,Int.reduceToNat,reduceCtorEq,Int.reduceLT,Int.reduceLE,Int.reduceGT,Int.reduceGE,Int.reduceEq,Int.reduceNe,Int.reduceNeg,Int.reduceAdd,Int.reduceSub,Pd.av]
  refine rK_use (enters_of Tryz.func19 rfl (by decide)) (ACalls.pure_use (Remove_c p2P 0) rfl rfl) ?_
  rw [remA_ok p2_ok, it4]
  simp only [go_sem,Nat.reduceAdd,Nat.reduceSub,Nat.reduceMul,Nat.reduceEqDiff,Nat.reduceLeDiff,Nat.reduceLT,↓reduceIte,Int.reduceToNat,reduceCtorEq,Int.reduceLT,Int.reduceLE,Int.reduceGT,Int.reduceGE,Int.reduceEq,Int.reduceNe,Int.reduceNeg,Int.reduceAdd,Int.reduceSub,Pd.av]
  refine rK_use (enters_of Tryz.func19 rfl (by decide)) (ACalls.pure_use (Remove_c p1P 0) rfl rfl) ?_
  rw [remA_ok p1_ok, it5]
  simp only [go_sem,Nat.reduceAdd,Nat.reduceSub,Nat.reduceMul,Nat.reduceEqDiff,Nat.reduceLeDiff,Nat.reduceLT,↓reduceIte,Int.reduceToNat,reduceCtorEq,Int.reduceLT,Int.reduceLE,Int.reduceGT,Int.reduceGE,Int.reduceEq,Int.reduceNe,Int.reduceNeg,Int.reduceAdd,Int.reduceSub,Pd.av]
  have d1 : dispE ⟨25, 0, 0, -6⟩ 3 100 = (⟨25, 0, 0, -103⟩, 2) := by kernel_rfl
  have d2 : dispE ⟨21, 0, 1, 5⟩ 0 5 = (⟨21, 0, 1, 5⟩, 3) := by kernel_rfl
  have d3 : dispE ⟨27, 0, 0, 10⟩ 6 100 = (⟨27, 0, 0, 10⟩, 3) := by kernel_rfl
  refine rK_use (enters_of Tryz.func15 rfl (by decide)) (ACalls.pure_use (Displace_c ⟨25, 0, 0, -6⟩ (by decide) 3 100) rfl rfl) ?_
  rw [d1]
  simp only [go_sem,Nat.reduceAdd,Nat.reduceSub,Nat.reduceMul,Nat.reduceEqDiff,Nat.reduceLeDiff,Nat.reduceLT,↓reduceIte,Int.reduceToNat,reduceCtorEq,Int.reduceLT,Int.reduceLE,Int.reduceGT,Int.reduceGE,Int.reduceEq,Int.reduceNe,Int.reduceNeg,Int.reduceAdd,Int.reduceSub,Ins.av,Ins.cells]
  refine rK_use (enters_of Tryz.func15 rfl (by decide)) (ACalls.pure_use (Displace_c ⟨21, 0, 1, 5⟩ (by decide) 0 5) rfl rfl) ?_
  rw [d2]
  simp only [go_sem,Nat.reduceAdd,Nat.reduceSub,Nat.reduceMul,Nat.reduceEqDiff,Nat.reduceLeDiff,Nat.reduceLT,↓reduceIte,Int.reduceToNat,reduceCtorEq,Int.reduceLT,Int.reduceLE,Int.reduceGT,Int.reduceGE,Int.reduceEq,Int.reduceNe,Int.reduceNeg,Int.reduceAdd,Int.reduceSub,Ins.av,Ins.cells]
  refine rK_use (enters_of Tryz.func15 rfl (by decide)) (ACalls.pure_use (Displace_c ⟨27, 0, 0, 10⟩ (by decide) 6 100) rfl rfl) ?_
  rw [d3]
  have f4 : twoP.l.map rp = [] := rfl
  have f5 : (twoP.s.byt.map rb).length = 128 := rfl
  have f6 : (twoP.s.byt.map rb)[0]? = some [.int .u8 144] := rfl
  simp only [go_sem,Nat.reduceAdd,Nat.reduceSub,Nat.reduceMul,Nat.reduceEqDiff,Nat.reduceLeDiff,Nat.reduceLT,↓reduceIte,Int.reduceToNat,reduceCtorEq,Int.reduceLT,Int.reduceLE,Int.reduceGT,Int.reduceGE,Int.reduceEq,Int.reduceNe,Int.reduceNeg,Int.reduceAdd,Int.reduceSub,Ins.av,Ins.cells,f4,f5,f6]
  refine rK_use (enters_of Tryz.func11 rfl (by decide)) (ACalls.pure_use (PStep_c p1P p1_ok rgP hwf 1000 (by unfold I64; omega)) rfl rfl) ?_
  rw [hE]
  simp only [go_sem,Nat.reduceAdd,Nat.reduceSub,Nat.reduceMul,Nat.reduceEqDiff,Nat.reduceLeDiff,Nat.reduceLT,↓reduceIte,Int.reduceToNat,reduceCtorEq,Int.reduceLT,Int.reduceLE,Int.reduceGT,Int.reduceGE,Int.reduceEq,Int.reduceNe,Int.reduceNeg,Int.reduceAdd,Int.reduceSub,Eff.av,Eff.cells,Eff.cellsD,s1,s2,s3,s4]
  refine finv rfl ?_ _
  rw [← hpost]
  exact ⟨rfl, rfl⟩
end Go.Proofs.YtfiflailjbmlpaaGreatDoor
set_option maxRecDepth 100000
set_option linter.unusedVariables false
set_option linter.unusedSimpArgs false
namespace Go.Proofs.YtfiflailjbmlpaaGreatDoor
open Go.AM
noncomputable def Pd.rebA (p : Pd) (s : Sp) : Pd × Int := if p.chk = 0 then p.reb s else (p0, 70)
theorem rebA_ok {p : Pd} (h : p.ok) (s : Sp) : p.rebA s = p.reb s := if_pos (Pd.chk_ok h)
theorem rebA_no {p : Pd} (h : ¬ p.ok) (s : Sp) : p.rebA s = (p0, 70) := if_neg (by rw [Pd.chk_no h]; decide)
def rebL (s : Sp) (l : List Pt) (i : Nat) : List Pt := (l.take i).map (Pt.reb s) ++ l.drop i
theorem rebL_len (s : Sp) (l : List Pt) (i : Nat) : (rebL s l i).length = l.length := by simp [rebL]; omega
theorem rebL_at {s : Sp} {l : List Pt} {i : Nat} {x : Pt} (hx : l[i]? = some x) : (rebL s l i)[i]? = some x := by
  have hi := (List.getElem?_eq_some_iff.1 hx).1
  rw [rebL, List.getElem?_append_right (by simp; omega)]
  simp [show min i l.length = i by omega, hx]
theorem rebL_set {s : Sp} {l : List Pt} {i : Nat} {x : Pt} (hx : l[i]? = some x) : (rebL s l i).set i (x.reb s) = rebL s l (i + 1) := by
  have hi := (List.getElem?_eq_some_iff.1 hx).1
  have hl : ((l.take i).map (Pt.reb s)).length = i := by simp; omega
  rw [rebL, List.set_append_right _ _ (by rw [hl]; exact Nat.le_refl _), hl, Nat.sub_self, drop_at hx, List.set_cons_zero, rebL, List.take_add_one, hx, List.map_append]
  simp
theorem rebL_all (s : Sp) (l : List Pt) : rebL s l l.length = l.map (Pt.reb s) := by simp [rebL]
theorem Rebase_c (p : Pd) (s : Sp) : ACalls Tryz.prog 30 [p.av, s.av] [] (fun o H => o = .ret (.tuple [(p.rebA s).1.av, iv (p.rebA s).2]) ∧ H = []) := by
  refine ACalls.up ?_
  refine ACalls.intro (cs := []) (n := 77) Tryz.func30 rfl rfl rfl (by kernel_rfl) rfl ?_
  generalize hpost : (fun (o : Out) (H : Heap) => o = Out.ret (.tuple [(p.rebA s).1.av, iv (p.rebA s).2]) ∧ H = []) = post
  have finN : ∀ n H, p.rebA s = (p0, n) → Up 0 post (.ret (.tuple [.agg pdN, iv n])) H := fun n H h => .le (.ret (.tuple (.cons pdN_le (.cons (.refl _) .nil)))) (LeH.refl _) (finv rfl (by rw [← hpost, h]; exact ⟨rfl, rfl⟩) H)
  simp only [go_sem,Nat.reduceAdd,Nat.reduceSub,Nat.reduceMul,Nat.reduceEqDiff,Nat.reduceLeDiff,Nat.reduceLT,↓reduceIte,Int.reduceToNat,reduceCtorEq,Int.reduceLT,Int.reduceLE,Int.reduceGT,Int.reduceGE,Int.reduceEq,Int.reduceNe,Int.reduceNeg,Int.reduceAdd,Int.reduceSub,Pd.av,Sp.av]
  refine rK_use (enters_of Tryz.func25 rfl (by decide)) (ACalls.pure_use (pcheck_c p) rfl rfl) ?_
  by_cases h : p.ok
  rotate_left
  · rw [Pd.chk_no h]
    simp only [go_sem,Nat.reduceAdd,Nat.reduceSub,Nat.reduceMul,Nat.reduceEqDiff,Nat.reduceLeDiff,Nat.reduceLT,↓reduceIte,Int.reduceToNat,reduceCtorEq,Int.reduceLT,Int.reduceLE,Int.reduceGT,Int.reduceGE,Int.reduceEq,Int.reduceNe,Int.reduceNeg,Int.reduceAdd,Int.reduceSub]
    exact finN 70 _ (rebA_no h s)
  rw [rebA_ok h, Pd.reb] at finN hpost
  rw [Pd.chk_ok h]
  simp only [go_sem,Nat.reduceAdd,Nat.reduceSub,Nat.reduceMul,Nat.reduceEqDiff,Nat.reduceLeDiff,Nat.reduceLT,↓reduceIte,Int.reduceToNat,reduceCtorEq,Int.reduceLT,Int.reduceLE,Int.reduceGT,Int.reduceGE,Int.reduceEq,Int.reduceNe,Int.reduceNeg,Int.reduceAdd,Int.reduceSub]
  refine rK_use (enters_of Tryz.func61 rfl (by decide)) (ACalls.pure_use (mcheck_c s) rfl rfl) ?_
  by_cases hs : s.ok
  rotate_left
  · rw [if_neg hs] at finN
    rw [Sp.chk, if_neg hs]
    simp only [go_sem,Nat.reduceAdd,Nat.reduceSub,Nat.reduceMul,Nat.reduceEqDiff,Nat.reduceLeDiff,Nat.reduceLT,↓reduceIte,Int.reduceToNat,reduceCtorEq,Int.reduceLT,Int.reduceLE,Int.reduceGT,Int.reduceGE,Int.reduceEq,Int.reduceNe,Int.reduceNeg,Int.reduceAdd,Int.reduceSub]
    exact finN 30 _ rfl
  rw [if_pos hs] at finN hpost
  rw [Sp.chk_ok hs]
  have hl := h.len
  have hbl := byt_len hs
  have hps := hs.p32
  simp only [go_sem,Nat.reduceAdd,Nat.reduceSub,Nat.reduceMul,Nat.reduceEqDiff,Nat.reduceLeDiff,Nat.reduceLT,↓reduceIte,Int.reduceToNat,reduceCtorEq,Int.reduceLT,Int.reduceLE,Int.reduceGT,Int.reduceGE,Int.reduceEq,Int.reduceNe,Int.reduceNeg,Int.reduceAdd,Int.reduceSub]
  refine rK_use (enters_of Tryz.func58 rfl (by decide)) (pcopied_u ⟨s, p.l⟩ ⟨by simp; omega, by simp; omega, by simp; omega⟩ _) ?_
  simp only [go_sem,Nat.reduceAdd,Nat.reduceSub,Nat.reduceMul,Nat.reduceEqDiff,Nat.reduceLeDiff,Nat.reduceLT,↓reduceIte,Int.reduceToNat,reduceCtorEq,Int.reduceLT,Int.reduceLE,Int.reduceGT,Int.reduceGE,Int.reduceEq,Int.reduceNe,Int.reduceNeg,Int.reduceAdd,Int.reduceSub]
  refine loop_fam (fun i : Nat => ((((((Ch.nil.put 3 (.ptr 1 0 0)).put 4 (.ptr 2 0 0)).put 8 (.ptr 5 0 0)).put 33 (.sl 4 0 p.l.length none)).put 34 (iv p.l.length)).put 35 (iv i)))
    (fun i => [.rows 3 [[.view false 1 (p.s.perm.map r1), .view false 1 (p.s.byt.map rb), .view false 3 (p.l.map rp)]], .rows 2 [[.view false 1 (s.perm.map r1), .view false 1 (s.byt.map rb)]], .rows 3 [pdN], .rows 1 (s.byt.map rb), .rows 3 ((rebL s p.l i).map rp), .rows 3 [[.view false 1 (s.perm.map r1), .sl 3 0 s.byt.length none, .sl 4 0 p.l.length none]]])
    (fun i => p.l.length - i) (fun i => i ≤ p.l.length ∧ ∀ x ∈ p.l.take i, (stand s x.at_).e = 0) 0 (by kernel_rfl) ⟨Nat.zero_le _, by simp⟩ (Wk.slots' rfl (by simp [wkS, Ch.get])) ?_
  rintro i ⟨hi, ha⟩ K hK
  simp only [go_sem,Nat.reduceAdd,Nat.reduceSub,Nat.reduceMul,Nat.reduceEqDiff,Nat.reduceLeDiff,Nat.reduceLT,↓reduceIte,Int.reduceToNat,reduceCtorEq,Int.reduceLT,Int.reduceLE,Int.reduceGT,Int.reduceGE,Int.reduceEq,Int.reduceNe,Int.reduceNeg,Int.reduceAdd,Int.reduceSub,pdN]
  refine condD_dec (fun hc => ?_) (fun hc => ?_)
  · obtain ⟨x, hx⟩ := at_lt (l := p.l) (i := i) (by omega)
    have hmem := List.mem_of_getElem? hx
    have e1 : iw .i64 ((i : Int) + 1) = ((i + 1 : Nat) : Int) := by rw [iw64] <;> omega
    have g1 : (0 : Int) ≤ i ∧ (i : Int) < p.l.length := ⟨by omega, by omega⟩
    have g2 : i < p.l.length := by omega
    have hxl := rebL_at (s := s) hx
    have hrl := rebL_len s p.l i
    simp only [go_sem,Nat.reduceAdd,Nat.reduceSub,Nat.reduceMul,Nat.reduceEqDiff,Nat.reduceLeDiff,Nat.reduceLT,↓reduceIte,Int.reduceToNat,reduceCtorEq,Int.reduceLT,Int.reduceLE,Int.reduceGT,Int.reduceGE,Int.reduceEq,Int.reduceNe,Int.reduceNeg,Int.reduceAdd,Int.reduceSub,g1,g2,hxl,hrl,List.length_map,List.getElem?_map]
    refine rK_use (enters_of Tryz.func49 rfl (by decide)) (ACalls.pure_use (standing_c s hs x.at_) rfl (by simp [sitC, Ins.cells, AV.lt, ltL])) ?_
    rcases Decidable.em ((stand s x.at_).e = 0) with hst | hst
    rotate_left
    · rw [if_neg (fun h => hst (of_decide_eq_true (List.all_eq_true.1 h x hmem)))] at finN
      simp only [go_sem,Nat.reduceAdd,Nat.reduceSub,Nat.reduceMul,Nat.reduceEqDiff,Nat.reduceLeDiff,Nat.reduceLT,↓reduceIte,Int.reduceToNat,reduceCtorEq,Int.reduceLT,Int.reduceLE,Int.reduceGT,Int.reduceGE,Int.reduceEq,Int.reduceNe,Int.reduceNeg,Int.reduceAdd,Int.reduceSub,decide_eq_false hst,sitC,Ins.cells]
      exact finN 71 _ rfl
    obtain ⟨b0, b1, _, d, _, _, hd⟩ := stand_at (h.i64 hmem) (by rw [hst]; decide)
    have g3 : (0 : Int) ≤ x.at_ ∧ x.at_ < (s.byt.length : Int) := ⟨b0, b1⟩
    have hset : ((rebL s p.l i).map rp).set i [iv x.at_, .int .u8 (d.toNat : Int), iv x.n] = (rebL s p.l (i + 1)).map rp := by
      rw [← rebL_set hx, List.map_set, Pt.reb, hd, Option.getD_some]
    simp only [go_sem,Nat.reduceAdd,Nat.reduceSub,Nat.reduceMul,Nat.reduceEqDiff,Nat.reduceLeDiff,Nat.reduceLT,↓reduceIte,Int.reduceToNat,reduceCtorEq,Int.reduceLT,Int.reduceLE,Int.reduceGT,Int.reduceGE,Int.reduceEq,Int.reduceNe,Int.reduceNeg,Int.reduceAdd,Int.reduceSub,decide_eq_true hst,sitC,Ins.cells]
    refine draw [.qu 0 0, .qu 0 0, .qu 0 0, .qu 0 0, .qu 0 0, .qu 0 0, .qu 0 0, .qu 0 0, .qu 0 0, .qu 0 0, .qu 0 0, .mn 0] (by kernel_rfl) (by kernel_rfl) ?_
    simp only [go_sem,Nat.reduceAdd,Nat.reduceSub,Nat.reduceMul,Nat.reduceEqDiff,Nat.reduceLeDiff,Nat.reduceLT,↓reduceIte,Int.reduceToNat,reduceCtorEq,Int.reduceLT,Int.reduceLE,Int.reduceGT,Int.reduceGE,Int.reduceEq,Int.reduceNe,Int.reduceNeg,Int.reduceAdd,Int.reduceSub,g1,g2,g3,hxl,hrl,hd,hset,List.length_map,List.getElem?_map,e1]
    refine hK (i + 1) _ _ ⟨by omega, fun y hy => ?_⟩ (by omega) (Wk.drop (m := 6) (by simp [wkS, Ch.get]) (Nat.zero_le _) (by simp) (by simp [chLt, AV.lt]) rfl (by simp only [List.forall_mem_cons]; exact ⟨by simp [Blk.lt, ltL, AV.lt], by simp [Blk.lt, ltL, AV.lt], by simp [Blk.lt, ltL, AV.lt, pdN], blt0 (rb_lt0 _), blt0 (rp_lt0 _), by simp [Blk.lt, ltL, AV.lt], by simp⟩))
    rw [List.take_add_one, hx, List.mem_append] at hy
    rcases hy with hy | hy
    · exact ha y hy
    · simp at hy; subst hy; exact hst
  · simp only [go_sem,Nat.reduceAdd,Nat.reduceSub,Nat.reduceMul,Nat.reduceEqDiff,Nat.reduceLeDiff,Nat.reduceLT,↓reduceIte,Int.reduceToNat,reduceCtorEq,Int.reduceLT,Int.reduceLE,Int.reduceGT,Int.reduceGE,Int.reduceEq,Int.reduceNe,Int.reduceNeg,Int.reduceAdd,Int.reduceSub]
    have hin : i = p.l.length := by omega
    subst hin
    rw [List.take_length] at ha
    rw [rebL_all]
    rw [if_pos (List.all_eq_true.2 fun x hx => decide_eq_true (ha x hx))] at hpost
    obtain ⟨M, hM⟩ : ∃ M, M = p.l.map (Pt.reb s) := ⟨_, rfl⟩
    have hMl : M.length = p.l.length := by rw [hM, List.length_map]
    have hMb : ∀ y ∈ M, 0 ≤ y.at_ ∧ y.at_ < s.byt.length := fun y hy => by
      rw [hM, List.mem_map] at hy
      obtain ⟨x, hx, rfl⟩ := hy
      have := stand_at (h.i64 hx) (by rw [ha x hx]; decide)
      exact ⟨this.1, this.2.1⟩
    rw [← hM] at hpost ⊢
    refine loop_fam (fun i : Nat => (((((Ch.nil.put 4 (.ptr 2 0 0)).put 8 (.ptr 5 0 0)).put 63 (.sl 4 0 p.l.length none)).put 64 (iv p.l.length)).put 65 (iv i)))
      (fun i => [.rows 3 [[.view false 1 (p.s.perm.map r1), .view false 1 (p.s.byt.map rb), .view false 3 (p.l.map rp)]], .rows 2 [[.view false 1 (s.perm.map r1), .view false 1 (s.byt.map rb)]], .rows 3 [pdN], .rows 1 ((putL b204 (M.take i) s).byt.map rb), .rows 3 (M.map rp), .rows 3 [[.view false 1 (s.perm.map r1), .sl 3 0 s.byt.length none, .sl 4 0 p.l.length none]]])
      (fun i => p.l.length - i) (fun i => i ≤ p.l.length) 0 (by kernel_rfl) (Nat.zero_le _) (Wk.slots' rfl (by simp [wkS, Ch.get])) ?_
    rintro i hi2 K2 hK2
    simp only [go_sem,Nat.reduceAdd,Nat.reduceSub,Nat.reduceMul,Nat.reduceEqDiff,Nat.reduceLeDiff,Nat.reduceLT,↓reduceIte,Int.reduceToNat,reduceCtorEq,Int.reduceLT,Int.reduceLE,Int.reduceGT,Int.reduceGE,Int.reduceEq,Int.reduceNe,Int.reduceNeg,Int.reduceAdd,Int.reduceSub,pdN]
    refine condD_dec (fun hc => ?_) (fun hc => ?_)
    · obtain ⟨x, hx⟩ := at_lt (l := M) (i := i) (by omega)
      obtain ⟨b0, b1⟩ := hMb x (List.mem_of_getElem? hx)
      have e1 : iw .i64 ((i : Int) + 1) = ((i + 1 : Nat) : Int) := by rw [iw64] <;> omega
      have g1 : (0 : Int) ≤ i ∧ (i : Int) < p.l.length := ⟨by omega, by omega⟩
      have hl2 : (putL b204 (M.take i) s).byt.length = s.byt.length := putL_len ..
      have g3 : x.at_.toNat < s.byt.length := by omega
      have g4 : i < p.l.length := by omega
      obtain ⟨z, hz⟩ := at_lt (l := (putL b204 (M.take i) s).byt) (i := x.at_.toNat) (by omega)
      have hset : ((putL b204 (M.take i) s).byt.map rb).set x.at_.toNat [.int .u8 204] = (putL b204 (M.take (i + 1)) s).byt.map rb := by
        rw [putL_succ hx, Sp.put, List.map_set]; rfl
      simp only [go_sem,Nat.reduceAdd,Nat.reduceSub,Nat.reduceMul,Nat.reduceEqDiff,Nat.reduceLeDiff,Nat.reduceLT,↓reduceIte,Int.reduceToNat,reduceCtorEq,Int.reduceLT,Int.reduceLE,Int.reduceGT,Int.reduceGE,Int.reduceEq,Int.reduceNe,Int.reduceNeg,Int.reduceAdd,Int.reduceSub,hx,List.getElem?_map,List.length_map,hMl,g1,b0,b1,hl2,g3,g4,hz,hset,e1]
      exact hK2 (i + 1) _ _ (by omega) (by omega) (Wk.drop (m := 6) (by simp [wkS, Ch.get]) (Nat.zero_le _) (by simp) (by simp [chLt, AV.lt]) rfl (by simp only [List.forall_mem_cons]; exact ⟨by simp [Blk.lt, ltL, AV.lt], by simp [Blk.lt, ltL, AV.lt], by simp [Blk.lt, ltL, AV.lt, pdN], blt0 (rb_lt0 _), blt0 (rp_lt0 _), by simp [Blk.lt, ltL, AV.lt], by simp⟩))
    · simp only [go_sem,Nat.reduceAdd,Nat.reduceSub,Nat.reduceMul,Nat.reduceEqDiff,Nat.reduceLeDiff,Nat.reduceLT,↓reduceIte,Int.reduceToNat,reduceCtorEq,Int.reduceLT,Int.reduceLE,Int.reduceGT,Int.reduceGE,Int.reduceEq,Int.reduceNe,Int.reduceNeg,Int.reduceAdd,Int.reduceSub]
      have hin : i = p.l.length := by omega
      subst hin
      rw [List.take_of_length_le (by omega)]
      have hq : mkP s M = ⟨putL b204 M s, M⟩ := rfl
      have hkr : ¬ (4 : Nat) = 3 := by decide
      have t1 : ((putL b204 M s).byt.map rb).take s.byt.length = (putL b204 M s).byt.map rb := List.take_of_length_le (by simp [putL_len])
      have t2 : (M.map rp).take p.l.length = M.map rp := List.take_of_length_le (by simp [hMl])
      refine up_two 3 1 ((putL b204 M s).byt.map rb) 4 3 (M.map rp) (by decide) rfl rfl (rb_lt0 _) (rp_lt0 _) ?_ ?_ ?_ ?_
      · simp [Out.fzOk, AV.fzOk, fzOkL, putL_len]
      · simp [Out.fzOk, Out.fz, AV.fz, fzL, AV.fzOk, fzOkL, hMl]
      · simp [Out.fz, AV.fz, fzL, Out.lt, AV.lt, ltL]
      · simp only [Out.fz, AV.fz, fzL, if_true, if_neg hkr, List.drop_zero, t1, t2]
        rw [← hpost]
        refine ⟨?_, rfl⟩
        rw [Pd.av, mkP, putL_perm]
end Go.Proofs.YtfiflailjbmlpaaGreatDoor
set_option maxRecDepth 100000
set_option linter.unusedVariables false
set_option linter.unusedSimpArgs false
namespace Go.Proofs.YtfiflailjbmlpaaGreatDoor
open Go.AM
theorem PatchBases_c (p : Pd) (s : Sp) : ACalls Tryz.prog 6 [p.av, s.av] [] (fun o H => o = .ret (.bool true) ∧ H = []) := by
  refine ACalls.up ?_
  refine ACalls.intro (cs := []) (n := 70) Tryz.func6 rfl rfl rfl (by kernel_rfl) rfl ?_
  generalize hpost : (fun (o : Out) (H : Heap) => o = Out.ret (.bool true) ∧ H = []) = post
  have fin : ∀ H, Up 0 post (.ret (.bool true)) H := fun H => finv rfl (by rw [← hpost]; exact ⟨rfl, rfl⟩) H
  simp only [go_sem,Nat.reduceAdd,Nat.reduceSub,Nat.reduceMul,Nat.reduceEqDiff,Nat.reduceLeDiff,Nat.reduceLT,↓reduceIte,Int.reduceToNat,reduceCtorEq,Int.reduceLT,Int.reduceLE,Int.reduceGT,Int.reduceGE,Int.reduceEq,Int.reduceNe,Int.reduceNeg,Int.reduceAdd,Int.reduceSub,Pd.av,Sp.av]
  refine rK_use (enters_of Tryz.func10 rfl (by decide)) (ACalls.pure_use (sane_c) rfl rfl) ?_
  simp only [go_sem,Nat.reduceAdd,Nat.reduceSub,Nat.reduceMul,Nat.reduceEqDiff,Nat.reduceLeDiff,Nat.reduceLT,↓reduceIte,Int.reduceToNat,reduceCtorEq,Int.reduceLT,Int.reduceLE,Int.reduceGT,Int.reduceGE,Int.reduceEq,Int.reduceNe,Int.reduceNeg,Int.reduceAdd,Int.reduceSub]
  by_cases h : p.ok
  rotate_left
  · refine rK_use (enters_of Tryz.func20 rfl (by decide)) (ACalls.pure_use (Clean_n p h) rfl rfl) ?_
    simp only [go_sem,Nat.reduceAdd,Nat.reduceSub,Nat.reduceMul,Nat.reduceEqDiff,Nat.reduceLeDiff,Nat.reduceLT,↓reduceIte,Int.reduceToNat,reduceCtorEq,Int.reduceLT,Int.reduceLE,Int.reduceGT,Int.reduceGE,Int.reduceEq,Int.reduceNe,Int.reduceNeg,Int.reduceAdd,Int.reduceSub,Sp.av]
    exact fin _
  refine rK_use (enters_of Tryz.func20 rfl (by decide)) (ACalls.pure_use (Clean_c p h) rfl rfl) ?_
  simp only [go_sem,Nat.reduceAdd,Nat.reduceSub,Nat.reduceMul,Nat.reduceEqDiff,Nat.reduceLeDiff,Nat.reduceLT,↓reduceIte,Int.reduceToNat,reduceCtorEq,Int.reduceLT,Int.reduceLE,Int.reduceGT,Int.reduceGE,Int.reduceEq,Int.reduceNe,Int.reduceNeg,Int.reduceAdd,Int.reduceSub,Sp.av]
  refine rK_use (enters_of Tryz.func30 rfl (by decide)) (ACalls.pure_use (Rebase_c p p.clean) rfl rfl) ?_
  rw [rebA_ok h, reb_self h]
  simp only [go_sem,Nat.reduceAdd,Nat.reduceSub,Nat.reduceMul,Nat.reduceEqDiff,Nat.reduceLeDiff,Nat.reduceLT,↓reduceIte,Int.reduceToNat,reduceCtorEq,Int.reduceLT,Int.reduceLE,Int.reduceGT,Int.reduceGE,Int.reduceEq,Int.reduceNe,Int.reduceNeg,Int.reduceAdd,Int.reduceSub,Pd.av]
  refine rK_use (enters_of Tryz.func30 rfl (by decide)) (ACalls.pure_use (Rebase_c p s) rfl rfl) ?_
  rw [rebA_ok h]
  have hL := fun h0 => reb_law h (s := s) h0
  have hso : (p.reb s).2 = 0 → s.ok := fun h0 => Classical.byContradiction fun hn => by rw [Pd.reb, if_neg hn] at h0; cases h0
  generalize p.reb s = R at *
  simp only [go_sem,Nat.reduceAdd,Nat.reduceSub,Nat.reduceMul,Nat.reduceEqDiff,Nat.reduceLeDiff,Nat.reduceLT,↓reduceIte,Int.reduceToNat,reduceCtorEq,Int.reduceLT,Int.reduceLE,Int.reduceGT,Int.reduceGE,Int.reduceEq,Int.reduceNe,Int.reduceNeg,Int.reduceAdd,Int.reduceSub,Pd.av]
  refine rK_use (enters_of Tryz.func31 rfl (by decide)) (ACalls.pure_use (psame_c p p h.fit.room) rfl rfl) ?_
  rw [samePd_self]
  simp only [go_sem,Nat.reduceAdd,Nat.reduceSub,Nat.reduceMul,Nat.reduceEqDiff,Nat.reduceLeDiff,Nat.reduceLT,↓reduceIte,Int.reduceToNat,reduceCtorEq,Int.reduceLT,Int.reduceLE,Int.reduceGT,Int.reduceGE,Int.reduceEq,Int.reduceNe,Int.reduceNeg,Int.reduceAdd,Int.reduceSub]
  rcases Decidable.em (R.2 = 0) with r0 | r0
  rotate_left
  · simp only [go_sem,Nat.reduceAdd,Nat.reduceSub,Nat.reduceMul,Nat.reduceEqDiff,Nat.reduceLeDiff,Nat.reduceLT,↓reduceIte,Int.reduceToNat,reduceCtorEq,Int.reduceLT,Int.reduceLE,Int.reduceGT,Int.reduceGE,Int.reduceEq,Int.reduceNe,Int.reduceNeg,Int.reduceAdd,Int.reduceSub,eq_false r0]
    exact fin _
  obtain ⟨l1, l2, l3⟩ := hL r0
  simp only [go_sem,Nat.reduceAdd,Nat.reduceSub,Nat.reduceMul,Nat.reduceEqDiff,Nat.reduceLeDiff,Nat.reduceLT,↓reduceIte,Int.reduceToNat,reduceCtorEq,Int.reduceLT,Int.reduceLE,Int.reduceGT,Int.reduceGE,Int.reduceEq,Int.reduceNe,Int.reduceNeg,Int.reduceAdd,Int.reduceSub,eq_true r0]
  refine rK_use (enters_of Tryz.func20 rfl (by decide)) (ACalls.pure_use (Clean_c R.1 l1) rfl rfl) ?_
  rw [l2]
  simp only [go_sem,Nat.reduceAdd,Nat.reduceSub,Nat.reduceMul,Nat.reduceEqDiff,Nat.reduceLeDiff,Nat.reduceLT,↓reduceIte,Int.reduceToNat,reduceCtorEq,Int.reduceLT,Int.reduceLE,Int.reduceGT,Int.reduceGE,Int.reduceEq,Int.reduceNe,Int.reduceNeg,Int.reduceAdd,Int.reduceSub,Sp.av]
  have hcf := hso r0
  have hc1 : s.perm.length ≤ 9223372036854775807 := by have := hcf.p32; omega
  have hc2 : s.byt.length ≤ 9223372036854775807 := by have := byt_len hcf; omega
  refine rK_use (enters_of Tryz.func32 rfl (by decide)) (ACalls.pure_use (msame_c s s hc1 hc2) rfl rfl) ?_
  rw [sameS_self]
  simp only [go_sem,Nat.reduceAdd,Nat.reduceSub,Nat.reduceMul,Nat.reduceEqDiff,Nat.reduceLeDiff,Nat.reduceLT,↓reduceIte,Int.reduceToNat,reduceCtorEq,Int.reduceLT,Int.reduceLE,Int.reduceGT,Int.reduceGE,Int.reduceEq,Int.reduceNe,Int.reduceNeg,Int.reduceAdd,Int.reduceSub,List.length_map,l3]
  exact fin _
end Go.Proofs.YtfiflailjbmlpaaGreatDoor
set_option maxRecDepth 100000
set_option linter.unusedVariables false
set_option linter.unusedSimpArgs false
namespace Go.Proofs.YtfiflailjbmlpaaGreatDoor
open Go.AM
open Go.ChangeShapes Go.WideShapes Go.ChangeAt Go.RowKit
def kdOf : DataW Unit → List UInt8 × Int
  | .agg [.lit (.string s), .lit (.int _ n)] => (s, n)
  | _ => ([], 0)
def kd : List (List UInt8 × Int) := match (Rows.laid_tapline_insn_kinds : DataW Unit) with
  | .agg ds => ds.map kdOf
  | _ => []
def kdD (x : List UInt8 × Int) : DataW Unit := .agg [.lit (.string x.1), .lit (.int .i64 x.2)]
def kdV (x : List UInt8 × Int) : List Value := [.string ⟨x.1.toArray⟩, .int .i64 x.2]
theorem kd_laid : (Rows.laid_tapline_insn_kinds : DataW Unit) = .agg (kd.map kdD) := rfl
theorem kd_gtab : gtab = [(0, kd.flatMap kdV)] := rfl
theorem kd_len : kd.length = 35 := by kernel_rfl
theorem chunk {α : Type} : ∀ (L : List (List α)) (cs : List α) (m : Nat), (∀ l ∈ L, l.length = m) → cs.length = L.length * m → (∀ (i : Nat) l, L[i]? = some l → (cs.drop (i * m)).take m = l) → cs = L.flatten
  | [], cs, m, _, h, _ => by simpa using h
  | l :: L, cs, m, hl, hn, h => by
    have h0 := h 0 l rfl
    simp at h0
    have ih := chunk L (cs.drop m) m (fun x hx => hl x (List.mem_cons_of_mem _ hx)) (by simp [hn, Nat.add_mul]) (fun i x hx => by
      have := h (i + 1) x (by simpa using hx)
      rw [List.drop_drop, show m + i * m = (i + 1) * m by rw [Nat.add_mul]; omega]
      exact this)
    rw [List.flatten_cons, ← ih, ← h0, List.take_append_drop]
theorem two {α : Type} : ∀ {l : List α}, l.length = 2 → ∃ a b, l = [a, b]
  | [a, b], _ => ⟨a, b, rfl⟩
theorem glok {W : World} (h : laidMetH Tryz.prog [("tapline/insn.kinds", Rows.laid_tapline_insn_kinds)] W) : GlOk (snapAll W) := by
  rw [MakeChecks.laidMetH_plain _ _ _ (by kernel_rfl)] at h
  obtain ⟨ps, ⟨g, t, cs, fuel, p, q, hg, ht, hv, hd, _, _⟩, _, _⟩ := h
  obtain rfl := Option.some.inj ((show Tryz.prog.globalNamed "tapline/insn.kinds" = some 0 by kernel_rfl).symm.trans hg)
  obtain rfl := Option.some.inj ((show (Tryz.prog.globals[0]?).map (·.type) = some 174 by kernel_rfl).symm.trans ht)
  obtain ⟨xs, m, _, ex, hn, hl, hel⟩ := DataW.trod_array Tryz.underlying174 hd
  have c2 : Tryz.prog.cellsOf 156 = 2 := by kernel_rfl
  have c70 : Tryz.prog.cellsOf 174 = 70 := by kernel_rfl
  have e3 : xs.map (·.1) = kd.map kdD := by
    have := (Prod.mk.inj ex).1
    rw [kd_laid] at this
    exact (DataW.agg.inj this).symm
  have hkl := kd_len
  have hcs : cs.toList = (kd.map kdV).flatten := by
    refine chunk _ _ 2 (fun l hl => by obtain ⟨x, _, rfl⟩ := List.mem_map.1 hl; rfl) (by rw [hn, c70, List.length_map, hkl]) fun i l hi => ?_
    rw [List.getElem?_map, Option.map_eq_some_iff] at hi
    obtain ⟨x, hx, rfl⟩ := hi
    have hil := (List.getElem?_eq_some_iff.1 hx).1
    have hE := hel i (by omega)
    rw [c2, List.getElem?_eq_getElem (by omega)] at hE
    have hx1 : xs[i].1 = kdD x := by
      have := congrArg (fun l => l[i]?) e3
      simp only [List.getElem?_map, hx, List.getElem?_eq_getElem (show i < xs.length by omega), Option.map_some, Option.some.injEq] at this
      exact this
    obtain ⟨ys, n, _, ey, hyl, hys, hf⟩ := DataW.trod_struct Tryz.underlying156 hE
    have f0 := hf 0 _ rfl
    have f1 := hf 1 _ rfl
    have h2 : ys.length = 2 := hys
    rw [List.getElem?_eq_getElem (by omega)] at f0 f1
    obtain ⟨s, s1, s2, _⟩ := DataW.trod_string Tryz.underlying9 f0
    obtain ⟨z, z1, z2, _⟩ := DataW.trod_int Tryz.underlying3 f1
    have c9 : Tryz.prog.cellsOf 9 = 1 := by kernel_rfl
    have c3 : Tryz.prog.cellsOf 3 = 1 := by kernel_rfl
    have e4 : ys.map (·.1) = [.lit (.string x.1), .lit (.int .i64 x.2)] := by
      rw [ey] at hx1
      exact DataW.agg.inj hx1
    obtain ⟨y0, y1, rfl⟩ := two h2
    simp only [List.map_cons, List.map_nil, List.cons.injEq, and_true, List.getElem_cons_zero, List.getElem_cons_succ] at e4
    have s2' : y0 = _ := s2
    have z2' : y1 = _ := z2
    rw [s2', z2'] at e4
    simp only [DataW.lit.injEq, Lit.string.injEq, Lit.int.injEq, true_and] at e4
    obtain ⟨es, ez⟩ := e4
    have hs : s = ⟨x.1.toArray⟩ := by
      rw [← es]
    rw [c2] at hyl
    generalize (cs.toList.drop (i * 2)).take 2 = B at *
    obtain ⟨u, v, rfl⟩ := two hyl
    have s1' : List.take (Tryz.prog.cellsOf 9) [u, v] = [.string s] := s1
    have z1' : List.take (Tryz.prog.cellsOf 3) [v] = [.int .i64 z] := z1
    rw [c9] at s1'
    rw [c3] at z1'
    simp only [List.take_succ_cons, List.take_zero, List.cons.injEq, and_true] at s1' z1'
    rw [s1', z1', hs, ez]
    rfl
  have hfl : kd.flatMap kdV = cs.toList := by rw [hcs, List.flatMap]
  intro y hy k v hk
  rw [kd_gtab, List.mem_singleton] at hy
  subst hy
  have hk' : cs.toList[k]? = some v := by rw [← hfl]; exact hk
  have hc := World.var?_cell hg hv k
  rw [show cs[k]? = some v by simpa using hk'] at hc
  unfold scell snapAll
  unfold World.cell? at hc
  split at hc
  · rename_i e
    rw [e]
    exact hc
  · cases hc
theorem wf_i64 {n : Int} (h : (Lit.int .i64 n).wf = true) : I64 n := by
  simp only [Lit.wf, Bool.and_eq_true, decide_eq_true_eq] at h
  have h1 : IntKind.i64.min = -9223372036854775808 := by decide
  have h2 : IntKind.i64.max = 9223372036854775807 := by decide
  rw [h1, h2] at h
  exact h
theorem wf_u8 {n : Int} (h : (Lit.int .u8 n).wf = true) : ∃ b : UInt8, n = (b.toNat : Int) := by
  simp only [Lit.wf, Bool.and_eq_true, decide_eq_true_eq] at h
  have h1 : IntKind.u8.min = 0 := by decide
  have h2 : IntKind.u8.max = 255 := by decide
  rw [h1, h2] at h
  refine ⟨UInt8.ofNat n.toNat, ?_⟩
  rw [UInt8.toNat_ofNat']
  omega
theorem sh_int {xs : List AV} (h : Sh Tryz.prog 3 xs) : ∃ n, wkL xs = r1 n ∧ I64 n := by
  obtain ⟨n, rfl, hw⟩ := h.int_inv Tryz.underlying3
  exact ⟨n, rfl, wf_i64 hw⟩
theorem sh_i64 {xs : List AV} (h : Sh Tryz.prog 2 xs) : ∃ n, wkL xs = r1 n ∧ I64 n := by
  obtain ⟨n, rfl, hw⟩ := h.int_inv Tryz.underlying2
  exact ⟨n, rfl, wf_i64 hw⟩
theorem sh_u8 {xs : List AV} (h : Sh Tryz.prog 5 xs) : ∃ b : UInt8, wkL xs = rb b := by
  obtain ⟨n, rfl, hw⟩ := h.int_inv Tryz.underlying5
  obtain ⟨b, rfl⟩ := wf_u8 hw
  exact ⟨b, rfl⟩
theorem cells_int : Tryz.prog.cellsOf 3 = 1 := by kernel_rfl
theorem cells_u8 : Tryz.prog.cellsOf 5 = 1 := by kernel_rfl
theorem wkL_app : ∀ (a b : List AV), wkL (a ++ b) = wkL a ++ wkL b
  | [], b => rfl
  | x :: a, b => by simp [wkL, wkL_app a b]
theorem sh_space {xs : List AV} (h : Sh Tryz.prog 25 xs) : ∃ s : Sp, wkL xs = [.view false 1 (s.perm.map r1), .view false 1 (s.byt.map rb)] := by
  obtain ⟨xss, rfl, hn, hp⟩ := h.struct_inv Tryz.underlying25
  obtain ⟨a, b, rfl⟩ := two hn
  obtain ⟨f1, r1', h1, _, hr1⟩ := (hp 0 _ a rfl rfl).slice_inv Tryz.underlying22
  obtain ⟨f2, r2', h2, _, hr2⟩ := (hp 1 _ b rfl rfl).slice_inv Tryz.underlying23
  obtain ⟨l1, hl1⟩ := Sh.rows (f := r1) (fun row hrow => (sh_int hrow).imp fun n hn => hn.1) hr1
  obtain ⟨l2, hl2⟩ := Sh.rows (f := rb) (fun row hrow => sh_u8 hrow) hr2
  subst h1 h2
  refine ⟨⟨l1, l2⟩, ?_⟩
  simp [AV.wk, wkL_app, wkL, hl1, hl2, cells_int, cells_u8]
theorem flat3 {xss : List (List AV)} (h : xss.length = 3) : ∃ a b c, xss = [a, b, c] := by
  match xss, h with
  | [a, b, c], _ => exact ⟨a, b, c, rfl⟩
theorem read_agg {H : Type} {enc : TypeId × Value → H} {P : Program} {w : World} {t : TypeId} {fs : Array Field} {v : Value} {d : DataW H} {p : List MemPlace} {base : Nat} (m : Nat) (ht : P.underlying t = some (.struct fs)) (hp : plainB P m t = true)
    (hv : Value.okWide P w .any base t v) (h : DataW.Trod enc P w 0 (fun _ => true) true t v d p) : ∃ xs, VR (snapAll w) noEnv (.agg (wkL xs)) v ∧ Sh P t xs := by
  unfold Value.okWide at hv
  rw [ht] at hv
  obtain ⟨cs, rfl, _⟩ := hv
  obtain ⟨n, hn⟩ := h
  obtain ⟨xs, h1, h2⟩ := read_trod m t hp n _ _ hn
  have hlen : xs.length = cs.size := by rw [h1.1]; simp [Value.cells]
  refine ⟨xs, ?_, h2⟩
  have := VR.wk (VR.agg (sn := snapAll w) noEnv xs cs hlen.symm fun k x y hx hy => (h1.2 k x y hx (by simpa [Value.cells] using hy)).1)
  simpa [AV.wk] using this
section
variable {H : Type} {enc : TypeId × Value → H} {w : World} {v : Value} {d : DataW H} {p : List MemPlace} {base : Nat}
theorem read_space (hv : Value.okWide Tryz.prog w .any base 25 v) (h : DataW.Trod enc Tryz.prog w 0 (fun _ => true) true 25 v d p) : ∃ s : Sp, VR (snapAll w) noEnv s.av v := by
  obtain ⟨xs, h1, h2⟩ := read_agg 5 Tryz.underlying25 (by kernel_rfl) hv h
  obtain ⟨x, hx⟩ := sh_space h2
  exact ⟨x, by rw [hx] at h1; exact h1⟩
end
theorem lout : laidOutB Tryz.prog = true := by kernel_rfl
theorem own : ownKnob Tryz.prog.godebug = none := by kernel_rfl
theorem rd_ok {l : List TypeId} (h : (l.all fun t => Tryz.prog.readableRec t && decide (t < Tryz.prog.types.size)) = true) : ∀ t ∈ l, Tryz.prog.readableRec t = true ∧ t < Tryz.prog.types.size := fun t ht => by
  have := List.all_eq_true.1 h t ht
  simpa using this
end Go.Proofs.YtfiflailjbmlpaaGreatDoor
set_option maxRecDepth 100000
set_option linter.unusedVariables false
set_option linter.unusedSimpArgs false
namespace Go.Proofs.YtfiflailjbmlpaaGreatDoor
open Go.AM
open Go.ChangeShapes Go.WideShapes Go.ChangeAt Go.RowKit
theorem cells_patch : Tryz.prog.cellsOf 92 = 3 := by kernel_rfl
theorem sh_patch {xs : List AV} (h : Sh Tryz.prog 92 xs) : ∃ x : Pt, wkL xs = rp x := by
  obtain ⟨xss, rfl, hn, hp⟩ := h.struct_inv Tryz.underlying92
  obtain ⟨a, b, c, rfl⟩ := flat3 hn
  obtain ⟨n0, h0, _⟩ := sh_i64 (hp 0 _ a rfl rfl)
  obtain ⟨n1, h1⟩ := sh_u8 (hp 1 _ b rfl rfl)
  obtain ⟨n2, h2, _⟩ := sh_int (hp 2 _ c rfl rfl)
  exact ⟨⟨n0, n1, n2⟩, by simp [wkL_app, h0, h1, h2]⟩
theorem sh_patched {xs : List AV} (h : Sh Tryz.prog 28 xs) : ∃ p : Pd, wkL xs = [.view false 1 (p.s.perm.map r1), .view false 1 (p.s.byt.map rb), .view false 3 (p.l.map rp)] := by
  obtain ⟨xss, rfl, hn, hp⟩ := h.struct_inv Tryz.underlying28
  obtain ⟨a, b, rfl⟩ := two hn
  obtain ⟨s, h0⟩ := sh_space (hp 0 _ a rfl rfl)
  obtain ⟨f1, r1', h1, _, hr1⟩ := (hp 1 _ b rfl rfl).slice_inv Tryz.underlying26
  obtain ⟨l1, hl1⟩ := Sh.rows (f := rp) (fun row hrow => sh_patch hrow) hr1
  subst h1
  refine ⟨⟨s, l1⟩, ?_⟩
  simp [AV.wk, wkL_app, wkL, h0, hl1, cells_patch]
section
variable {H : Type} {enc : TypeId × Value → H} {w : World} {v : Value} {d : DataW H} {p : List MemPlace} {base : Nat}
theorem read_patched (hv : Value.okWide Tryz.prog w .any base 28 v) (h : DataW.Trod enc Tryz.prog w 0 (fun _ => true) true 28 v d p) : ∃ p : Pd, VR (snapAll w) noEnv p.av v := by
  obtain ⟨xs, h1, h2⟩ := read_agg 5 Tryz.underlying28 (by kernel_rfl) hv h
  obtain ⟨x, hx⟩ := sh_patched h2
  exact ⟨x, by rw [hx] at h1; exact h1⟩
end
end Go.Proofs.YtfiflailjbmlpaaGreatDoor
set_option maxRecDepth 100000
set_option linter.unusedVariables false
set_option linter.unusedSimpArgs false
namespace Go.Proofs.YtfiflailjbmlpaaGreatDoor.patchBases
open Go.AM
open Go.ChangeShapes Go.WideShapes Go.ChangeAt Go.RowKit
abbrev laid : List (String × DataW Unit) := [("tapline/insn.kinds", Rows.laid_tapline_insn_kinds)]
theorem lifted (os : Os) (started : os.Started) (H : Type) (enc : TypeId × Value → H) :
    ReturnsInHanded {} Tryz.checked os 6 .any (fun w args => (Rows.patchBasesSpec.pre enc Tryz.prog Tryz.f6 Rows.patchBasesRow.domain false w args ∧ laidMetH Tryz.prog laid w) ∧ sizedMet enc Tryz.prog Tryz.f6 (OpenSpec.ofChange Rows.patchBasesSpec) false w args)
      (Rows.patchBasesSpec.post enc Tryz.prog Tryz.f6 false true false false) := by
  refine returnsInHanded_of_change_and (C := Tryz.checked) (X := fun w _ => laidMetH Tryz.prog laid w) (fun _ _ _ hh h => h.of_heap hh) own started (by kernel_rfl) Tryz.func6
    (ChangeSpec.witness_shaped (enc := enc) (C := Tryz.checked) (os := os) (X := fun w _ => laidMetH Tryz.prog laid w) false (World.laidAll Tryz.prog os laid) #[.agg #[.slice none 0 0, .slice none 0 0, .slice none 0 0], .agg #[.slice none 0 0, .slice none 0 0]] 8 (World.laidAll_os _ _ _)
      (World.shaped_of_ZipB (by kernel_rfl) (by kernel_rfl)) (by kernel_rfl) (by kernel_rfl) (by kernel_rfl)
      (by rw [MakeChecks.laidMetH_plain _ _ _ (by kernel_rfl)]; exact laidMet_laidAll _ (by kernel_rfl) (by kernel_rfl))) ?_
  intro W base args ds gs before hval0 hW hcnd _ hL _
  have hval : ∀ (j : Nat) t v, Tryz.f6.params[j]? = some t → args[j]? = some v → Value.okWide Tryz.prog W .any base t v := hval0
  have hW' := hW
  obtain ⟨p, q, hA0, hV, rfl, hfz, hnd⟩ := hW'
  have hA : DataW.TrodAll enc Tryz.prog W 0 (fun _ => true) true Tryz.f6.params.toList args.toList ds p := hA0
  rw [Tryz.params6] at hA hval
  obtain ⟨v0, vs0, d0, ds0, p0, q0, hargs, rfl, rfl, h0, t0⟩ := trodAll_cons hA
  obtain ⟨v1, vs1, d1, ds1, p1, q1, rfl, rfl, rfl, h1, t1⟩ := trodAll_cons t0
  obtain ⟨rfl, rfl, rfl⟩ := trodAll_nil t1
  obtain rfl : args = #[v0, v1] := by cases args; simp_all
  obtain ⟨p0, g0⟩ := read_patched (hval 0 _ v0 rfl rfl) h0
  obtain ⟨s1, g1⟩ := read_space (hval 1 _ v1 rfl rfl) h1
  refine law_contract (PatchBases_c p0 s1) hW rfl rfl Tryz.underlying4 rfl lout ?_ (glok hL) (vrs_cons g0 (vrs_cons g1 vrs_nil))
  rw [Tryz.params6]
  exact rd_ok (by kernel_rfl)
theorem over : Rows.patchBasesRow.holds Tryz.pinned (OpenSpec.ofChange Rows.patchBasesSpec) :=
  OpenClaim.holds_of_wide 6 Tryz.f6 rfl rfl rfl rfl rfl rfl rfl ⟨rfl, rfl, rfl, rfl, rfl⟩ rfl rfl rfl rfl rfl (by kernel_rfl) Tryz.func6 (by kernel_rfl)
    (of_decide_eq_true (by kernel_rfl)) (by unfold Func.isWrapper; first | (rw [if_pos (by decide +kernel)]; kernel_rfl) | (rw [if_neg (by decide +kernel)]; exact ⟨rfl, rfl⟩))
    (fun os started H enc _ => lifted os started H enc)
end Go.Proofs.YtfiflailjbmlpaaGreatDoor.patchBases
namespace Go.Proofs.YtfiflailjbmlpaaGreatDoor
open Go.ChangeShapes Go.WideShapes Go.ChangeAt Go.RowKit
theorem PatchBases_holds : Rows.PatchBasesCardSaid :=
  Claim7.holds_tied_plain_at .later [] [.data] true (true, "ea4cc0f2ded47b671e2122025cf082f487491e1966c9bc2ced630b359658aba1") true patchBases.over (fun _ h => by cases h) (by kernel_rfl) (fun _ h => by cases h) patchBases_row_tie rfl ⟨rfl, rfl⟩ (by kernel_rfl) rfl
    (fun f fn hf hfn => by
      obtain rfl : f = 6 := Option.some.inj ((show Tryz.prog.funcNamed "tapline/taplinelaw07.PatchBases" = some 6 by kernel_rfl).symm.trans hf) |>.symm
      obtain rfl : fn = Tryz.f6 := (Option.some.inj (Tryz.func6.symm.trans hfn)).symm
      exact ⟨by kernel_rfl, fun j t ht => by
        rw [Tryz.params6] at ht
        have hm : t ∈ [28, 25] := by simpa using Array.mem_of_getElem? ht
        have hall : ([28, 25].all fun u => !Tryz.prog.wantsStandIn u) = true := by kernel_rfl
        exact (show Tryz.prog.wantsStandIn t = false by simpa using List.all_eq_true.1 hall t hm)⟩)
    (by kernel_rfl)
end Go.Proofs.YtfiflailjbmlpaaGreatDoor
