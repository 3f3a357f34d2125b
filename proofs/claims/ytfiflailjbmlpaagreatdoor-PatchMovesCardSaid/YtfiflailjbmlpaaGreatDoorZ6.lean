/- Texts joined, without what is not needed. No condition. -/
import Derived.Test.YtfiflailjbmlpaaGreatDoorZ5
set_option maxRecDepth 100000
set_option linter.unusedVariables false
set_option linter.unusedSimpArgs false
namespace Go.Proofs.YtfiflailjbmlpaaGreatDoor
open Go.AM
def cmpI (a b : Int) : Int := if a < b then -1 else if b < a then 1 else 0
theorem isnan_c (a : Int) : ACalls Tryz.prog 133 [iv a] [] (fun o H => o = .ret (.bool false) ∧ H = []) := by
  refine ACalls.up ?_
  refine ACalls.intro (cs := []) (n := 6) Tryz.func133 rfl rfl rfl (by kernel_rfl) rfl ?_
  simp only [go_sem,Nat.reduceAdd,Nat.reduceSub,Nat.reduceMul,Nat.reduceEqDiff,Nat.reduceLeDiff,Nat.reduceLT,↓reduceIte,Int.reduceToNat,reduceCtorEq,Int.reduceLT,Int.reduceLE,Int.reduceGT,Int.reduceGE,Int.reduceEq,Int.reduceNe,Int.reduceNeg,Int.reduceAdd,Int.reduceSub]
  exact .done ⟨rfl, rfl⟩
theorem compare_c (a b : Int) : ACalls Tryz.prog 119 [iv a, iv b] [] (fun o H => o = .ret (iv (cmpI a b)) ∧ H = []) := by
  refine ACalls.up ?_
  refine ACalls.intro (cs := []) (n := 20) Tryz.func119 rfl rfl rfl (by kernel_rfl) rfl ?_
  generalize hpost : (fun (o : Out) (H : Heap) => o = Out.ret (iv (cmpI a b)) ∧ H = []) = post
  have fin : ∀ n H, n = cmpI a b → Up 0 post (.ret (iv n)) H := fun n H h => finv rfl (by rw [← hpost, ← h]; exact ⟨rfl, rfl⟩) H
  simp only [go_sem,Nat.reduceAdd,Nat.reduceSub,Nat.reduceMul,Nat.reduceEqDiff,Nat.reduceLeDiff,Nat.reduceLT,↓reduceIte,Int.reduceToNat,reduceCtorEq,Int.reduceLT,Int.reduceLE,Int.reduceGT,Int.reduceGE,Int.reduceEq,Int.reduceNe,Int.reduceNeg,Int.reduceAdd,Int.reduceSub]
  refine rK_use (enters_of Tryz.func133 rfl (by decide)) (ACalls.pure_use (isnan_c a) rfl rfl) ?_
  simp only [go_sem,Nat.reduceAdd,Nat.reduceSub,Nat.reduceMul,Nat.reduceEqDiff,Nat.reduceLeDiff,Nat.reduceLT,↓reduceIte,Int.reduceToNat,reduceCtorEq,Int.reduceLT,Int.reduceLE,Int.reduceGT,Int.reduceGE,Int.reduceEq,Int.reduceNe,Int.reduceNeg,Int.reduceAdd,Int.reduceSub]
  refine rK_use (enters_of Tryz.func133 rfl (by decide)) (ACalls.pure_use (isnan_c b) rfl rfl) ?_
  simp only [go_sem,Nat.reduceAdd,Nat.reduceSub,Nat.reduceMul,Nat.reduceEqDiff,Nat.reduceLeDiff,Nat.reduceLT,↓reduceIte,Int.reduceToNat,reduceCtorEq,Int.reduceLT,Int.reduceLE,Int.reduceGT,Int.reduceGE,Int.reduceEq,Int.reduceNe,Int.reduceNeg,Int.reduceAdd,Int.reduceSub]
  refine condD_dec (fun h1 => ?_) (fun h1 => ?_)
  · simp only [go_sem,Nat.reduceAdd,Nat.reduceSub,Nat.reduceMul,Nat.reduceEqDiff,Nat.reduceLeDiff,Nat.reduceLT,↓reduceIte,Int.reduceToNat,reduceCtorEq,Int.reduceLT,Int.reduceLE,Int.reduceGT,Int.reduceGE,Int.reduceEq,Int.reduceNe,Int.reduceNeg,Int.reduceAdd,Int.reduceSub]
    exact fin _ _ (by rw [cmpI, if_pos h1])
  · simp only [go_sem,Nat.reduceAdd,Nat.reduceSub,Nat.reduceMul,Nat.reduceEqDiff,Nat.reduceLeDiff,Nat.reduceLT,↓reduceIte,Int.reduceToNat,reduceCtorEq,Int.reduceLT,Int.reduceLE,Int.reduceGT,Int.reduceGE,Int.reduceEq,Int.reduceNe,Int.reduceNeg,Int.reduceAdd,Int.reduceSub]
    refine condD_dec (fun h2 => ?_) (fun h2 => ?_)
    · simp only [go_sem,Nat.reduceAdd,Nat.reduceSub,Nat.reduceMul,Nat.reduceEqDiff,Nat.reduceLeDiff,Nat.reduceLT,↓reduceIte,Int.reduceToNat,reduceCtorEq,Int.reduceLT,Int.reduceLE,Int.reduceGT,Int.reduceGE,Int.reduceEq,Int.reduceNe,Int.reduceNeg,Int.reduceAdd,Int.reduceSub]
      exact fin _ _ (by rw [cmpI, if_neg h1, if_pos h2])
    · simp only [go_sem,Nat.reduceAdd,Nat.reduceSub,Nat.reduceMul,Nat.reduceEqDiff,Nat.reduceLeDiff,Nat.reduceLT,↓reduceIte,Int.reduceToNat,reduceCtorEq,Int.reduceLT,Int.reduceLE,Int.reduceGT,Int.reduceGE,Int.reduceEq,Int.reduceNe,Int.reduceNeg,Int.reduceAdd,Int.reduceSub]
      exact fin _ _ (by rw [cmpI, if_neg h1, if_neg h2])
theorem findkey_c (x : Pt) : ACalls Tryz.prog 94 [.agg (rp x)] [] (fun o H => o = .ret (iv x.at_) ∧ H = []) := by
  refine ACalls.up ?_
  refine ACalls.intro (cs := []) (n := 5) Tryz.func94 rfl rfl rfl (by kernel_rfl) rfl ?_
  simp only [go_sem,Nat.reduceAdd,Nat.reduceSub,Nat.reduceMul,Nat.reduceEqDiff,Nat.reduceLeDiff,Nat.reduceLT,↓reduceIte,Int.reduceToNat,reduceCtorEq,Int.reduceLT,Int.reduceLE,Int.reduceGT,Int.reduceGE,Int.reduceEq,Int.reduceNe,Int.reduceNeg,Int.reduceAdd,Int.reduceSub]
  exact finv rfl ⟨rfl, rfl⟩ _
def keyB : Blk := .rows 1 [[.func (.func 94) [] []]]
theorem searchcmp_c (x : Pt) (a : Int) : ACalls Tryz.prog 118 [.agg (rp x), iv a, .ptr 0 0 0] [keyB] (fun o H => o = .ret (iv (cmpI x.at_ a)) ∧ H = [keyB]) := by
  refine ACalls.up ?_
  refine ACalls.intro (cs := []) (n := 11) Tryz.func118 rfl rfl rfl (by kernel_rfl) rfl ?_
  simp only [go_sem,Nat.reduceAdd,Nat.reduceSub,Nat.reduceMul,Nat.reduceEqDiff,Nat.reduceLeDiff,Nat.reduceLT,↓reduceIte,Int.reduceToNat,reduceCtorEq,Int.reduceLT,Int.reduceLE,Int.reduceGT,Int.reduceGE,Int.reduceEq,Int.reduceNe,Int.reduceNeg,Int.reduceAdd,Int.reduceSub,keyB]
  refine rK_use (enters_of Tryz.func94 rfl (by decide)) (ACalls.pure_use (findkey_c x) rfl rfl) ?_
  simp only [go_sem,Nat.reduceAdd,Nat.reduceSub,Nat.reduceMul,Nat.reduceEqDiff,Nat.reduceLeDiff,Nat.reduceLT,↓reduceIte,Int.reduceToNat,reduceCtorEq,Int.reduceLT,Int.reduceLE,Int.reduceGT,Int.reduceGE,Int.reduceEq,Int.reduceNe,Int.reduceNeg,Int.reduceAdd,Int.reduceSub]
  refine rK_use (enters_of Tryz.func119 rfl (by decide)) (ACalls.pure_use (compare_c x.at_ a) rfl rfl) ?_
  simp only [go_sem,Nat.reduceAdd,Nat.reduceSub,Nat.reduceMul,Nat.reduceEqDiff,Nat.reduceLeDiff,Nat.reduceLT,↓reduceIte,Int.reduceToNat,reduceCtorEq,Int.reduceLT,Int.reduceLE,Int.reduceGT,Int.reduceGE,Int.reduceEq,Int.reduceNe,Int.reduceNeg,Int.reduceAdd,Int.reduceSub]
  exact .gc 1 (Nat.le_refl _) (by simp) rfl (by simp [Blk.lt, ltL, AV.lt]) (.done ⟨rfl, rfl⟩)
theorem cmpI_lt (a b : Int) : cmpI a b < 0 ↔ a < b := by
  unfold cmpI
  repeat' split
  all_goals omega
theorem cmpI_eq (a b : Int) : cmpI a b = 0 ↔ a = b := by
  unfold cmpI
  repeat' split
  all_goals omega
def fnd (a : Int) (l : List Pt) : Bool := match l[lb a l]? with
  | some y => decide (y.at_ = a)
  | none => false
theorem bsearch_c (l : List Pt) (hs : Srt l) (hl : l.length ≤ 1000000) (a : Int) : ACalls Tryz.prog 117 [.view false 3 (l.map rp), iv a, .func (.func 118) [] [.ptr 0 0 0]] [keyB]
    (fun o H => o = .ret (.tuple [iv (lb a l), .bool (fnd a l)]) ∧ H = [keyB]) := by
  refine ACalls.up ?_
  refine ACalls.intro (cs := []) (n := 49) Tryz.func117 rfl rfl rfl (by kernel_rfl) rfl ?_
  generalize hpost : (fun (o : Out) (H : Heap) => o = Out.ret (.tuple [iv (lb a l), .bool (fnd a l)]) ∧ H = [keyB]) = post
  simp only [go_sem,Nat.reduceAdd,Nat.reduceSub,Nat.reduceMul,Nat.reduceEqDiff,Nat.reduceLeDiff,Nat.reduceLT,↓reduceIte,Int.reduceToNat,reduceCtorEq,Int.reduceLT,Int.reduceLE,Int.reduceGT,Int.reduceGE,Int.reduceEq,Int.reduceNe,Int.reduceNeg,Int.reduceAdd,Int.reduceSub,List.length_map]
  refine loop_fam (fun q : Nat × Nat => ((((((Ch.nil.put 0 (.view false 3 (l.map rp))).put 1 (iv a)).put 2 (.func (.func 118) [] [.ptr 0 0 0])).put 8 (iv l.length)).put 9 (iv q.1)).put 10 (iv q.2)))
    (fun _ => [keyB]) (fun q => q.2 - q.1) (fun q => q.1 ≤ q.2 ∧ q.2 ≤ l.length ∧ (∀ (k : Nat) (x : Pt), k < q.1 → l[k]? = some x → x.at_ < a) ∧ (∀ (k : Nat) (x : Pt), q.2 ≤ k → l[k]? = some x → a ≤ x.at_)) (0, l.length) (by kernel_rfl)
    ⟨Nat.zero_le _, Nat.le_refl _, fun k x hk => absurd hk (Nat.not_lt_zero _), fun k x hk hx => absurd (List.getElem?_eq_some_iff.1 hx).1 (by simp at hk; omega)⟩ (Wk.slots' rfl (by simp [wkS, Ch.get])) ?_
  rintro ⟨i, j⟩ ⟨hij, hj, h1, h2⟩ K hK
  simp only at hij hj h1 h2
  simp only [go_sem,Nat.reduceAdd,Nat.reduceSub,Nat.reduceMul,Nat.reduceEqDiff,Nat.reduceLeDiff,Nat.reduceLT,↓reduceIte,Int.reduceToNat,reduceCtorEq,Int.reduceLT,Int.reduceLE,Int.reduceGT,Int.reduceGE,Int.reduceEq,Int.reduceNe,Int.reduceNeg,Int.reduceAdd,Int.reduceSub]
  refine condD_dec (fun hc => ?_) (fun hc => ?_)
  · have e1 : iw .i64 ((i : Int) + j) = ((i + j : Nat) : Int) := by rw [iw64] <;> omega
    have e2 : iw .u64 ((i + j : Nat) : Int) = ((i + j : Nat) : Int) := by rw [iwu64]; omega
    have e3 : ((i + j : Nat) : Int).fdiv (2 ^ min 1 64) = (((i + j) / 2 : Nat) : Int) := by
      rw [show min 1 64 = 1 from rfl, Int.pow_one, Int.fdiv_eq_ediv_of_nonneg _ (by decide)]; omega
    have e4 : iw .i64 (((i + j) / 2 : Nat) : Int) = (((i + j) / 2 : Nat) : Int) := by rw [iw64] <;> omega
    obtain ⟨h, hh⟩ : ∃ h, h = (i + j) / 2 := ⟨_, rfl⟩
    rw [← hh] at e3 e4
    have e5 : iw .i64 ((h : Int) + 1) = ((h + 1 : Nat) : Int) := by rw [iw64] <;> omega
    obtain ⟨x, hx⟩ := at_lt (l := l) (i := h) (by omega)
    have g1 : (0 : Int) ≤ h ∧ (h : Int) < l.length := ⟨by omega, by omega⟩
    simp only [go_sem,Nat.reduceAdd,Nat.reduceSub,Nat.reduceMul,Nat.reduceEqDiff,Nat.reduceLeDiff,Nat.reduceLT,↓reduceIte,Int.reduceToNat,reduceCtorEq,Int.reduceLT,Int.reduceLE,Int.reduceGT,Int.reduceGE,Int.reduceEq,Int.reduceNe,Int.reduceNeg,Int.reduceAdd,Int.reduceSub,e1,e2,e3,e4,g1,List.length_map,List.getElem?_map,hx]
    refine rK_use (enters_of Tryz.func118 rfl (by decide)) (searchcmp_c x a) ?_
    simp only [go_sem,Nat.reduceAdd,Nat.reduceSub,Nat.reduceMul,Nat.reduceEqDiff,Nat.reduceLeDiff,Nat.reduceLT,↓reduceIte,Int.reduceToNat,reduceCtorEq,Int.reduceLT,Int.reduceLE,Int.reduceGT,Int.reduceGE,Int.reduceEq,Int.reduceNe,Int.reduceNeg,Int.reduceAdd,Int.reduceSub]
    refine condD_dec (fun hd => ?_) (fun hd => ?_)
    · rw [cmpI_lt] at hd
      simp only [go_sem,Nat.reduceAdd,Nat.reduceSub,Nat.reduceMul,Nat.reduceEqDiff,Nat.reduceLeDiff,Nat.reduceLT,↓reduceIte,Int.reduceToNat,reduceCtorEq,Int.reduceLT,Int.reduceLE,Int.reduceGT,Int.reduceGE,Int.reduceEq,Int.reduceNe,Int.reduceNeg,Int.reduceAdd,Int.reduceSub,e5]
      refine hK (h + 1, j) _ _ ⟨by simp; omega, hj, fun k y hk hy => ?_, h2⟩ (by simp; omega) (Wk.slots' rfl (by simp [wkS, Ch.get]))
      rcases Nat.lt_or_eq_of_le (Nat.le_of_lt_succ hk) with hk | rfl
      · have := srt_lt hs hk hy hx; omega
      · rw [hx] at hy; cases hy; exact hd
    · rw [cmpI_lt] at hd
      simp only [go_sem,Nat.reduceAdd,Nat.reduceSub,Nat.reduceMul,Nat.reduceEqDiff,Nat.reduceLeDiff,Nat.reduceLT,↓reduceIte,Int.reduceToNat,reduceCtorEq,Int.reduceLT,Int.reduceLE,Int.reduceGT,Int.reduceGE,Int.reduceEq,Int.reduceNe,Int.reduceNeg,Int.reduceAdd,Int.reduceSub]
      refine hK (i, h) _ _ ⟨by simp; omega, by simp; omega, h1, fun k y hk hy => ?_⟩ (by simp; omega) (Wk.slots' rfl (by simp [wkS, Ch.get]))
      rcases Nat.lt_or_eq_of_le hk with hk | rfl
      · have := srt_lt hs hk hx hy; omega
      · rw [hx] at hy; cases hy; omega
  · simp only [go_sem,Nat.reduceAdd,Nat.reduceSub,Nat.reduceMul,Nat.reduceEqDiff,Nat.reduceLeDiff,Nat.reduceLT,↓reduceIte,Int.reduceToNat,reduceCtorEq,Int.reduceLT,Int.reduceLE,Int.reduceGT,Int.reduceGE,Int.reduceEq,Int.reduceNe,Int.reduceNeg,Int.reduceAdd,Int.reduceSub]
    have hji : j = i := by omega
    subst hji
    have hlb : lb a l = j := lb_eq hs hj h1 (fun x hx => h2 j x (Nat.le_refl _) hx)
    refine gD_dec (fun hd => ?_) (fun hd => ?_)
    · obtain ⟨x, hx⟩ := at_lt (l := l) (i := j) (by omega)
      have g1 : (0 : Int) ≤ j ∧ (j : Int) < l.length := ⟨by omega, by omega⟩
      simp only [go_sem,Nat.reduceAdd,Nat.reduceSub,Nat.reduceMul,Nat.reduceEqDiff,Nat.reduceLeDiff,Nat.reduceLT,↓reduceIte,Int.reduceToNat,reduceCtorEq,Int.reduceLT,Int.reduceLE,Int.reduceGT,Int.reduceGE,Int.reduceEq,Int.reduceNe,Int.reduceNeg,Int.reduceAdd,Int.reduceSub,hd,g1,List.length_map,List.getElem?_map,hx]
      refine rK_use (enters_of Tryz.func118 rfl (by decide)) (searchcmp_c x a) ?_
      simp only [go_sem,Nat.reduceAdd,Nat.reduceSub,Nat.reduceMul,Nat.reduceEqDiff,Nat.reduceLeDiff,Nat.reduceLT,↓reduceIte,Int.reduceToNat,reduceCtorEq,Int.reduceLT,Int.reduceLE,Int.reduceGT,Int.reduceGE,Int.reduceEq,Int.reduceNe,Int.reduceNeg,Int.reduceAdd,Int.reduceSub,hd]
      refine .done ?_
      rw [← hpost]
      refine ⟨?_, rfl⟩
      rw [fnd, hlb, hx]
      simp only [cmpI_eq]
    · simp only [go_sem,Nat.reduceAdd,Nat.reduceSub,Nat.reduceMul,Nat.reduceEqDiff,Nat.reduceLeDiff,Nat.reduceLT,↓reduceIte,Int.reduceToNat,reduceCtorEq,Int.reduceLT,Int.reduceLE,Int.reduceGT,Int.reduceGE,Int.reduceEq,Int.reduceNe,Int.reduceNeg,Int.reduceAdd,Int.reduceSub,hd]
      refine .done ?_
      rw [← hpost]
      refine ⟨?_, rfl⟩
      rw [fnd, hlb, List.getElem?_eq_none (by omega)]
theorem search_c (l : List Pt) (hs : Srt l) (hl : l.length ≤ 1000000) (a : Int) : ACalls Tryz.prog 93 [.view false 3 (l.map rp), iv a, .func (.func 94) [] []] [] (fun o H => o = .ret (.tuple [iv (lb a l), .bool (fnd a l)]) ∧ H = []) := by
  refine ACalls.up ?_
  refine ACalls.intro (cs := []) (n := 14) Tryz.func93 rfl rfl rfl (by kernel_rfl) rfl ?_
  simp only [go_sem,Nat.reduceAdd,Nat.reduceSub,Nat.reduceMul,Nat.reduceEqDiff,Nat.reduceLeDiff,Nat.reduceLT,↓reduceIte,Int.reduceToNat,reduceCtorEq,Int.reduceLT,Int.reduceLE,Int.reduceGT,Int.reduceGE,Int.reduceEq,Int.reduceNe,Int.reduceNeg,Int.reduceAdd,Int.reduceSub]
  refine rK_use (enters_of Tryz.func117 rfl (by decide)) (bsearch_c l hs hl a) ?_
  simp only [go_sem,Nat.reduceAdd,Nat.reduceSub,Nat.reduceMul,Nat.reduceEqDiff,Nat.reduceLeDiff,Nat.reduceLT,↓reduceIte,Int.reduceToNat,reduceCtorEq,Int.reduceLT,Int.reduceLE,Int.reduceGT,Int.reduceGE,Int.reduceEq,Int.reduceNe,Int.reduceNeg,Int.reduceAdd,Int.reduceSub]
  exact finv rfl ⟨rfl, rfl⟩ _
theorem find_c (l : List Pt) (hs : Srt l) (hl : l.length ≤ 1000000) (a : Int) : ACalls Tryz.prog 48 [.view false 3 (l.map rp), iv a] [] (fun o H => o = .ret (.tuple [iv (lb a l), .bool (fnd a l)]) ∧ H = []) := by
  refine ACalls.up ?_
  refine ACalls.intro (cs := []) (n := 11) Tryz.func48 rfl rfl rfl (by kernel_rfl) rfl ?_
  simp only [go_sem,Nat.reduceAdd,Nat.reduceSub,Nat.reduceMul,Nat.reduceEqDiff,Nat.reduceLeDiff,Nat.reduceLT,↓reduceIte,Int.reduceToNat,reduceCtorEq,Int.reduceLT,Int.reduceLE,Int.reduceGT,Int.reduceGE,Int.reduceEq,Int.reduceNe,Int.reduceNeg,Int.reduceAdd,Int.reduceSub]
  refine rK_use (enters_of Tryz.func93 rfl (by decide)) (ACalls.pure_use (search_c l hs hl a) rfl rfl) ?_
  simp only [go_sem,Nat.reduceAdd,Nat.reduceSub,Nat.reduceMul,Nat.reduceEqDiff,Nat.reduceLeDiff,Nat.reduceLT,↓reduceIte,Int.reduceToNat,reduceCtorEq,Int.reduceLT,Int.reduceLE,Int.reduceGT,Int.reduceGE,Int.reduceEq,Int.reduceNe,Int.reduceNeg,Int.reduceAdd,Int.reduceSub]
  exact finv rfl ⟨rfl, rfl⟩ _
end Go.Proofs.YtfiflailjbmlpaaGreatDoor
set_option maxRecDepth 100000
set_option linter.unusedVariables false
set_option linter.unusedSimpArgs false
namespace Go.Proofs.YtfiflailjbmlpaaGreatDoor
open Go.AM
theorem check1_c (s : Sp) (hs : s.ok) (x : Pt) : ACalls Tryz.prog 63 [.agg (rp x), .ptr 0 0 0] [spB (.view false 1 (s.perm.map r1)) (.view false 1 (s.byt.map rb))]
    (fun o H => o = .ret (.bool (!decide ((stand s x.at_).e = 0))) ∧ H = [spB (.view false 1 (s.perm.map r1)) (.view false 1 (s.byt.map rb))]) := by
  refine ACalls.up ?_
  refine ACalls.intro (cs := []) (n := 15) Tryz.func63 rfl rfl rfl (by kernel_rfl) rfl ?_
  simp only [go_sem,Nat.reduceAdd,Nat.reduceSub,Nat.reduceMul,Nat.reduceEqDiff,Nat.reduceLeDiff,Nat.reduceLT,↓reduceIte,Int.reduceToNat,reduceCtorEq,Int.reduceLT,Int.reduceLE,Int.reduceGT,Int.reduceGE,Int.reduceEq,Int.reduceNe,Int.reduceNeg,Int.reduceAdd,Int.reduceSub,spB]
  refine rK_use (enters_of Tryz.func49 rfl (by decide)) (ACalls.pure_use (standing_c s hs x.at_) rfl (by simp [sitC, Ins.cells, AV.lt, ltL])) ?_
  simp only [go_sem,Nat.reduceAdd,Nat.reduceSub,Nat.reduceMul,Nat.reduceEqDiff,Nat.reduceLeDiff,Nat.reduceLT,↓reduceIte,Int.reduceToNat,reduceCtorEq,Int.reduceLT,Int.reduceLE,Int.reduceGT,Int.reduceGE,Int.reduceEq,Int.reduceNe,Int.reduceNeg,Int.reduceAdd,Int.reduceSub,sitC,Ins.cells]
  exact .gc 1 (Nat.le_refl _) (by simp) rfl (by simp [Blk.lt, ltL, AV.lt]) (.done ⟨rfl, rfl⟩)
def bad0 (s : Sp) : List Pt → Nat → Int
  | [], _ => -1
  | x :: l, i => if (stand s x.at_).e = 0 then bad0 s l (i + 1) else i
theorem bad0_lt (s : Sp) : ∀ (l : List Pt) (i : Nat), bad0 s l i < 0 ↔ ∀ x ∈ l, (stand s x.at_).e = 0
  | [], i => by simp [bad0]
  | x :: l, i => by
    have := bad0_lt s l (i + 1)
    rw [bad0, List.forall_mem_cons]
    split
    · rename_i h; rw [this]; exact ⟨fun k => ⟨h, k⟩, fun k => k.2⟩
    · rename_i h; exact ⟨fun k => by omega, fun k => absurd k.1 h⟩
theorem index_c (s : Sp) (hs : s.ok) (l : List Pt) (hl : l.length ≤ 1000000) : ACalls Tryz.prog 107 [.view false 3 (l.map rp), .func (.func 63) [] [.ptr 0 0 0]] [spB (.view false 1 (s.perm.map r1)) (.view false 1 (s.byt.map rb))]
    (fun o H => o = .ret (iv (bad0 s l 0)) ∧ H = [spB (.view false 1 (s.perm.map r1)) (.view false 1 (s.byt.map rb))]) := by
  refine ACalls.up ?_
  refine ACalls.intro (cs := []) (n := 19) Tryz.func107 rfl rfl rfl (by kernel_rfl) rfl ?_
  generalize hpost : (fun (o : Out) (H : Heap) => o = Out.ret (iv (bad0 s l 0)) ∧ H = [spB (.view false 1 (s.perm.map r1)) (.view false 1 (s.byt.map rb))]) = post
  simp only [go_sem,Nat.reduceAdd,Nat.reduceSub,Nat.reduceMul,Nat.reduceEqDiff,Nat.reduceLeDiff,Nat.reduceLT,↓reduceIte,Int.reduceToNat,reduceCtorEq,Int.reduceLT,Int.reduceLE,Int.reduceGT,Int.reduceGE,Int.reduceEq,Int.reduceNe,Int.reduceNeg,Int.reduceAdd,Int.reduceSub,List.length_map]
  refine loop_fam (fun i : Nat => ((((Ch.nil.put 0 (.view false 3 (l.map rp))).put 1 (.func (.func 63) [] [.ptr 0 0 0])).put 7 (iv l.length)).put 8 (iv i)))
    (fun _ => [spB (.view false 1 (s.perm.map r1)) (.view false 1 (s.byt.map rb))]) (fun i => l.length - i) (fun i => i ≤ l.length ∧ bad0 s l 0 = bad0 s (l.drop i) i) 0 (by kernel_rfl) ⟨Nat.zero_le _, rfl⟩ (Wk.slots' rfl (by simp [wkS, Ch.get])) ?_
  rintro i ⟨hi, hb⟩ K hK
  simp only [go_sem,Nat.reduceAdd,Nat.reduceSub,Nat.reduceMul,Nat.reduceEqDiff,Nat.reduceLeDiff,Nat.reduceLT,↓reduceIte,Int.reduceToNat,reduceCtorEq,Int.reduceLT,Int.reduceLE,Int.reduceGT,Int.reduceGE,Int.reduceEq,Int.reduceNe,Int.reduceNeg,Int.reduceAdd,Int.reduceSub]
  refine condD_dec (fun hc => ?_) (fun hc => ?_)
  · obtain ⟨x, hx⟩ := at_lt (l := l) (i := i) (by omega)
    have e1 : iw .i64 ((i : Int) + 1) = ((i + 1 : Nat) : Int) := by rw [iw64] <;> omega
    have g1 : (0 : Int) ≤ i ∧ (i : Int) < l.length := ⟨by omega, by omega⟩
    rw [drop_at hx, bad0] at hb
    simp only [go_sem,Nat.reduceAdd,Nat.reduceSub,Nat.reduceMul,Nat.reduceEqDiff,Nat.reduceLeDiff,Nat.reduceLT,↓reduceIte,Int.reduceToNat,reduceCtorEq,Int.reduceLT,Int.reduceLE,Int.reduceGT,Int.reduceGE,Int.reduceEq,Int.reduceNe,Int.reduceNeg,Int.reduceAdd,Int.reduceSub,g1,List.length_map,List.getElem?_map,hx]
    refine rK_use (enters_of Tryz.func63 rfl (by decide)) (check1_c s hs x) ?_
    rcases Decidable.em ((stand s x.at_).e = 0) with h0 | h0
    · rw [decide_eq_true h0, Bool.not_true]
      rw [if_pos h0] at hb
      simp only [go_sem,Nat.reduceAdd,Nat.reduceSub,Nat.reduceMul,Nat.reduceEqDiff,Nat.reduceLeDiff,Nat.reduceLT,↓reduceIte,Int.reduceToNat,reduceCtorEq,Int.reduceLT,Int.reduceLE,Int.reduceGT,Int.reduceGE,Int.reduceEq,Int.reduceNe,Int.reduceNeg,Int.reduceAdd,Int.reduceSub,e1]
      exact hK (i + 1) _ _ ⟨by omega, hb⟩ (by omega) (Wk.slots' rfl (by simp [wkS, Ch.get]))
    · rw [decide_eq_false h0, Bool.not_false]
      rw [if_neg h0] at hb
      simp only [go_sem,Nat.reduceAdd,Nat.reduceSub,Nat.reduceMul,Nat.reduceEqDiff,Nat.reduceLeDiff,Nat.reduceLT,↓reduceIte,Int.reduceToNat,reduceCtorEq,Int.reduceLT,Int.reduceLE,Int.reduceGT,Int.reduceGE,Int.reduceEq,Int.reduceNe,Int.reduceNeg,Int.reduceAdd,Int.reduceSub]
      refine .done ?_
      rw [← hpost, hb]
      exact ⟨rfl, rfl⟩
  · simp only [go_sem,Nat.reduceAdd,Nat.reduceSub,Nat.reduceMul,Nat.reduceEqDiff,Nat.reduceLeDiff,Nat.reduceLT,↓reduceIte,Int.reduceToNat,reduceCtorEq,Int.reduceLT,Int.reduceLE,Int.reduceGT,Int.reduceGE,Int.reduceEq,Int.reduceNe,Int.reduceNeg,Int.reduceAdd,Int.reduceSub]
    have : i = l.length := by omega
    subst this
    rw [List.drop_length, bad0] at hb
    refine .done ?_
    rw [← hpost, hb]
    exact ⟨rfl, rfl⟩
theorem contains_c (s : Sp) (hs : s.ok) (l : List Pt) (hl : l.length ≤ 1000000) : ACalls Tryz.prog 62 [.view false 3 (l.map rp), .func (.func 63) [] [.ptr 0 0 0]] [spB (.view false 1 (s.perm.map r1)) (.view false 1 (s.byt.map rb))]
    (fun o H => o = .ret (.bool (decide (0 ≤ bad0 s l 0))) ∧ H = [spB (.view false 1 (s.perm.map r1)) (.view false 1 (s.byt.map rb))]) := by
  refine ACalls.up ?_
  refine ACalls.intro (cs := []) (n := 9) Tryz.func62 rfl rfl rfl (by kernel_rfl) rfl ?_
  simp only [go_sem,Nat.reduceAdd,Nat.reduceSub,Nat.reduceMul,Nat.reduceEqDiff,Nat.reduceLeDiff,Nat.reduceLT,↓reduceIte,Int.reduceToNat,reduceCtorEq,Int.reduceLT,Int.reduceLE,Int.reduceGT,Int.reduceGE,Int.reduceEq,Int.reduceNe,Int.reduceNeg,Int.reduceAdd,Int.reduceSub]
  refine rK_use (enters_of Tryz.func107 rfl (by decide)) (index_c s hs l hl) ?_
  simp only [go_sem,Nat.reduceAdd,Nat.reduceSub,Nat.reduceMul,Nat.reduceEqDiff,Nat.reduceLeDiff,Nat.reduceLT,↓reduceIte,Int.reduceToNat,reduceCtorEq,Int.reduceLT,Int.reduceLE,Int.reduceGT,Int.reduceGE,Int.reduceEq,Int.reduceNe,Int.reduceNeg,Int.reduceAdd,Int.reduceSub]
  exact .done ⟨rfl, rfl⟩
theorem pcheck_c (p : Pd) : ACalls Tryz.prog 25 [p.av] [] (fun o H => o = .ret (iv p.chk) ∧ H = []) := by
  refine ACalls.up ?_
  refine ACalls.intro (cs := []) (n := 79) Tryz.func25 rfl rfl rfl (by kernel_rfl) rfl ?_
  generalize hpost : (fun (o : Out) (H : Heap) => o = Out.ret (iv p.chk) ∧ H = []) = post
  have fin : ∀ n H, n = p.chk → Up 0 post (.ret (iv n)) H := fun n H h => finv rfl (by rw [← hpost, ← h]; exact ⟨rfl, rfl⟩) H
  simp only [go_sem,Nat.reduceAdd,Nat.reduceSub,Nat.reduceMul,Nat.reduceEqDiff,Nat.reduceLeDiff,Nat.reduceLT,↓reduceIte,Int.reduceToNat,reduceCtorEq,Int.reduceLT,Int.reduceLE,Int.reduceGT,Int.reduceGE,Int.reduceEq,Int.reduceNe,Int.reduceNeg,Int.reduceAdd,Int.reduceSub,Pd.av]
  refine rK_use (enters_of Tryz.func61 rfl (by decide)) (ACalls.pure_use (mcheck_c p.s) rfl rfl) ?_
  by_cases hs : p.s.ok
  rotate_left
  · rw [Sp.chk, if_neg hs]
    simp only [go_sem,Nat.reduceAdd,Nat.reduceSub,Nat.reduceMul,Nat.reduceEqDiff,Nat.reduceLeDiff,Nat.reduceLT,↓reduceIte,Int.reduceToNat,reduceCtorEq,Int.reduceLT,Int.reduceLE,Int.reduceGT,Int.reduceGE,Int.reduceEq,Int.reduceNe,Int.reduceNeg,Int.reduceAdd,Int.reduceSub]
    exact fin 70 _ (Pd.chk_no fun h => hs h.sok).symm
  rw [Sp.chk_ok hs]
  simp only [go_sem,Nat.reduceAdd,Nat.reduceSub,Nat.reduceMul,Nat.reduceEqDiff,Nat.reduceLeDiff,Nat.reduceLT,↓reduceIte,Int.reduceToNat,reduceCtorEq,Int.reduceLT,Int.reduceLE,Int.reduceGT,Int.reduceGE,Int.reduceEq,Int.reduceNe,Int.reduceNeg,Int.reduceAdd,Int.reduceSub,List.length_map]
  refine condD_dec (fun hl => ?_) (fun hl => ?_)
  · simp only [go_sem,Nat.reduceAdd,Nat.reduceSub,Nat.reduceMul,Nat.reduceEqDiff,Nat.reduceLeDiff,Nat.reduceLT,↓reduceIte,Int.reduceToNat,reduceCtorEq,Int.reduceLT,Int.reduceLE,Int.reduceGT,Int.reduceGE,Int.reduceEq,Int.reduceNe,Int.reduceNeg,Int.reduceAdd,Int.reduceSub]
    exact fin 70 _ (Pd.chk_no fun h => by have := h.len; omega).symm
  simp only [go_sem,Nat.reduceAdd,Nat.reduceSub,Nat.reduceMul,Nat.reduceEqDiff,Nat.reduceLeDiff,Nat.reduceLT,↓reduceIte,Int.reduceToNat,reduceCtorEq,Int.reduceLT,Int.reduceLE,Int.reduceGT,Int.reduceGE,Int.reduceEq,Int.reduceNe,Int.reduceNeg,Int.reduceAdd,Int.reduceSub,List.length_map]
  have hbl := byt_len hs
  refine loop_fam (fun i : Nat => ((((Ch.nil.put 1 (.ptr 0 0 0)).put 17 (.view false 3 (p.l.map rp))).put 18 (iv p.l.length)).put 19 (iv i)))
    (fun _ => [.rows 3 [[.view false 1 (p.s.perm.map r1), .view false 1 (p.s.byt.map rb), .view false 3 (p.l.map rp)]]]) (fun i => p.l.length - i) (fun i => i ≤ p.l.length ∧ ∀ k, k < i → okAt p.s p.l k) 0 (by kernel_rfl) ⟨Nat.zero_le _, fun k hk => absurd hk (Nat.not_lt_zero _)⟩ (Wk.slots' rfl (by simp [wkS, Ch.get])) ?_
  rintro i ⟨hi, ha⟩ K hK
  simp only [go_sem,Nat.reduceAdd,Nat.reduceSub,Nat.reduceMul,Nat.reduceEqDiff,Nat.reduceLeDiff,Nat.reduceLT,↓reduceIte,Int.reduceToNat,reduceCtorEq,Int.reduceLT,Int.reduceLE,Int.reduceGT,Int.reduceGE,Int.reduceEq,Int.reduceNe,Int.reduceNeg,Int.reduceAdd,Int.reduceSub]
  refine condD_dec (fun hc => ?_) (fun hc => ?_)
  · obtain ⟨x, hx⟩ := at_lt (l := p.l) (i := i) (by omega)
    have e1 : iw .i64 ((i : Int) + 1) = ((i + 1 : Nat) : Int) := by rw [iw64] <;> omega
    have g1 : (0 : Int) ≤ i ∧ (i : Int) < p.l.length := ⟨by omega, by omega⟩
    have bad : ¬ okAt p.s p.l i → ¬ p.ok := fun h hp => h ((okAt_all.2 ⟨hp.sor, hp.fits⟩) i (by omega))
    simp only [go_sem,Nat.reduceAdd,Nat.reduceSub,Nat.reduceMul,Nat.reduceEqDiff,Nat.reduceLeDiff,Nat.reduceLT,↓reduceIte,Int.reduceToNat,reduceCtorEq,Int.reduceLT,Int.reduceLE,Int.reduceGT,Int.reduceGE,Int.reduceEq,Int.reduceNe,Int.reduceNeg,Int.reduceAdd,Int.reduceSub,g1,List.length_map,List.getElem?_map,hx]
    refine draw [.qu 0 0, .qu 0 0, .qu 0 0, .qu 0 0, .qu 0 0, .qu 0 0, .qu 0 0, .qu 0 0, .qu 0 0, .qu 0 0, .qu 0 0, .qu 0 0, .qu 0 0, .qu 0 0, .qu 0 0, .qu 0 0, .qu 0 0, .qu 0 0, .qu 0 0, .qu 0 0, .qu 0 0, .qu 0 0, .qu 0 0, .qu 0 0, .qu 0 0, .qu 0 0, .qu 0 0, .qu 0 0, .qu 0 0, .qu 0 0, .qu 0 0, .qu 0 0, .qu 0 0, .qu 0 0, .qu 0 0, .qu 0 0, .qu 0 0, .qu 0 0, .qu 0 0, .qu 0 0, .qu 0 0, .qu 0 0, .qu 0 0, .qu 0 0, .qu 0 0, .qu 0 0, .qu 0 0, .qu 0 0] (by kernel_rfl) (by kernel_rfl) ?_
    simp only [go_sem,Nat.reduceAdd,Nat.reduceSub,Nat.reduceMul,Nat.reduceEqDiff,Nat.reduceLeDiff,Nat.reduceLT,↓reduceIte,Int.reduceToNat,reduceCtorEq,Int.reduceLT,Int.reduceLE,Int.reduceGT,Int.reduceGE,Int.reduceEq,Int.reduceNe,Int.reduceNeg,Int.reduceAdd,Int.reduceSub,List.length_map]
    have go : okAt p.s p.l i → ∀ s' H', Wk 0 79 s' H' (((((Ch.nil.put 1 (.ptr 0 0 0)).put 17 (.view false 3 (p.l.map rp))).put 18 (iv p.l.length)).put 19 (iv (i + 1 : Nat)))) [.rows 3 [[.view false 1 (p.s.perm.map r1), .view false 1 (p.s.byt.map rb), .view false 3 (p.l.map rp)]]] → K s' H' := fun h s' H' hw =>
      hK (i + 1) s' H' ⟨by omega, fun k hk => (Nat.lt_or_eq_of_le (Nat.le_of_lt_succ hk)).elim (fun hk => ha k hk) (fun e => e ▸ h)⟩ (by omega) hw
    refine dG_dec (fun c1 => ?_) (fun c1 => ?_)
    · simp only [go_sem,Nat.reduceAdd,Nat.reduceSub,Nat.reduceMul,Nat.reduceEqDiff,Nat.reduceLeDiff,Nat.reduceLT,↓reduceIte,Int.reduceToNat,reduceCtorEq,Int.reduceLT,Int.reduceLE,Int.reduceGT,Int.reduceGE,Int.reduceEq,Int.reduceNe,Int.reduceNeg,Int.reduceAdd,Int.reduceSub,c1]
      exact fin 70 _ (Pd.chk_no (bad fun h => by have := (h x hx).1.a0; omega)).symm
    simp only [go_sem,Nat.reduceAdd,Nat.reduceSub,Nat.reduceMul,Nat.reduceEqDiff,Nat.reduceLeDiff,Nat.reduceLT,↓reduceIte,Int.reduceToNat,reduceCtorEq,Int.reduceLT,Int.reduceLE,Int.reduceGT,Int.reduceGE,Int.reduceEq,Int.reduceNe,Int.reduceNeg,Int.reduceAdd,Int.reduceSub,c1,List.length_map]
    refine dG_dec (fun c2 => ?_) (fun c2 => ?_)
    · simp only [go_sem,Nat.reduceAdd,Nat.reduceSub,Nat.reduceMul,Nat.reduceEqDiff,Nat.reduceLeDiff,Nat.reduceLT,↓reduceIte,Int.reduceToNat,reduceCtorEq,Int.reduceLT,Int.reduceLE,Int.reduceGT,Int.reduceGE,Int.reduceEq,Int.reduceNe,Int.reduceNeg,Int.reduceAdd,Int.reduceSub,c2]
      exact fin 70 _ (Pd.chk_no (bad fun h => by have := (h x hx).1.a1; omega)).symm
    obtain ⟨b, hb⟩ := at_lt (l := p.s.byt) (i := x.at_.toNat) (by omega)
    have g2 : (0 : Int) ≤ x.at_ ∧ x.at_ < p.s.byt.length := ⟨by omega, by omega⟩
    simp only [go_sem,Nat.reduceAdd,Nat.reduceSub,Nat.reduceMul,Nat.reduceEqDiff,Nat.reduceLeDiff,Nat.reduceLT,↓reduceIte,Int.reduceToNat,reduceCtorEq,Int.reduceLT,Int.reduceLE,Int.reduceGT,Int.reduceGE,Int.reduceEq,Int.reduceNe,Int.reduceNeg,Int.reduceAdd,Int.reduceSub,c2]
    refine dG_dec (fun c3 => ?_) (fun c3 => ?_)
    · have e2 : iw .i64 ((i : Int) - 1) = ((i - 1 : Nat) : Int) := by rw [iw64] <;> omega
      obtain ⟨y, hy⟩ := at_lt (l := p.l) (i := i - 1) (by omega)
      have g3 : (0 : Int) ≤ ((i - 1 : Nat) : Int) ∧ ((i - 1 : Nat) : Int) < p.l.length := ⟨by omega, by omega⟩
      simp only [go_sem,Nat.reduceAdd,Nat.reduceSub,Nat.reduceMul,Nat.reduceEqDiff,Nat.reduceLeDiff,Nat.reduceLT,↓reduceIte,Int.reduceToNat,reduceCtorEq,Int.reduceLT,Int.reduceLE,Int.reduceGT,Int.reduceGE,Int.reduceEq,Int.reduceNe,Int.reduceNeg,Int.reduceAdd,Int.reduceSub,c3,e2,g3,hy,List.length_map,List.getElem?_map]
      refine dG_dec (fun c4 => ?_) (fun c4 => ?_)
      · simp only [go_sem,Nat.reduceAdd,Nat.reduceSub,Nat.reduceMul,Nat.reduceEqDiff,Nat.reduceLeDiff,Nat.reduceLT,↓reduceIte,Int.reduceToNat,reduceCtorEq,Int.reduceLT,Int.reduceLE,Int.reduceGT,Int.reduceGE,Int.reduceEq,Int.reduceNe,Int.reduceNeg,Int.reduceAdd,Int.reduceSub,c4]
        exact fin 70 _ (Pd.chk_no (bad fun h => by have := (h x hx).2 y (by omega) hy; omega)).symm
      simp only [go_sem,Nat.reduceAdd,Nat.reduceSub,Nat.reduceMul,Nat.reduceEqDiff,Nat.reduceLeDiff,Nat.reduceLT,↓reduceIte,Int.reduceToNat,reduceCtorEq,Int.reduceLT,Int.reduceLE,Int.reduceGT,Int.reduceGE,Int.reduceEq,Int.reduceNe,Int.reduceNeg,Int.reduceAdd,Int.reduceSub,c4]
      have hadj : ∀ y, 0 < i → p.l[i - 1]? = some y → y.at_ < x.at_ := fun z _ hz => by rw [hy] at hz; cases hz; omega
      refine dG_dec (fun c5 => ?_) (fun c5 => ?_)
      · simp only [go_sem,Nat.reduceAdd,Nat.reduceSub,Nat.reduceMul,Nat.reduceEqDiff,Nat.reduceLeDiff,Nat.reduceLT,↓reduceIte,Int.reduceToNat,reduceCtorEq,Int.reduceLT,Int.reduceLE,Int.reduceGT,Int.reduceGE,Int.reduceEq,Int.reduceNe,Int.reduceNeg,Int.reduceAdd,Int.reduceSub,c5]
        exact fin 70 _ (Pd.chk_no (bad fun h => by have := (h x hx).1.n1; omega)).symm
      simp only [go_sem,Nat.reduceAdd,Nat.reduceSub,Nat.reduceMul,Nat.reduceEqDiff,Nat.reduceLeDiff,Nat.reduceLT,↓reduceIte,Int.reduceToNat,reduceCtorEq,Int.reduceLT,Int.reduceLE,Int.reduceGT,Int.reduceGE,Int.reduceEq,Int.reduceNe,Int.reduceNeg,Int.reduceAdd,Int.reduceSub,c5]
      refine dG_dec (fun c6 => ?_) (fun c6 => ?_)
      · simp only [go_sem,Nat.reduceAdd,Nat.reduceSub,Nat.reduceMul,Nat.reduceEqDiff,Nat.reduceLeDiff,Nat.reduceLT,↓reduceIte,Int.reduceToNat,reduceCtorEq,Int.reduceLT,Int.reduceLE,Int.reduceGT,Int.reduceGE,Int.reduceEq,Int.reduceNe,Int.reduceNeg,Int.reduceAdd,Int.reduceSub,c6]
        exact fin 70 _ (Pd.chk_no (bad fun h => by have := (h x hx).1.n2; omega)).symm
      simp only [go_sem,Nat.reduceAdd,Nat.reduceSub,Nat.reduceMul,Nat.reduceEqDiff,Nat.reduceLeDiff,Nat.reduceLT,↓reduceIte,Int.reduceToNat,reduceCtorEq,Int.reduceLT,Int.reduceLE,Int.reduceGT,Int.reduceGE,Int.reduceEq,Int.reduceNe,Int.reduceNeg,Int.reduceAdd,Int.reduceSub,c6,g2,List.length_map,List.getElem?_map,hb]
      refine condD_dec (fun c7 => ?_) (fun c7 => ?_)
      · simp only [go_sem,Nat.reduceAdd,Nat.reduceSub,Nat.reduceMul,Nat.reduceEqDiff,Nat.reduceLeDiff,Nat.reduceLT,↓reduceIte,Int.reduceToNat,reduceCtorEq,Int.reduceLT,Int.reduceLE,Int.reduceGT,Int.reduceGE,Int.reduceEq,Int.reduceNe,Int.reduceNeg,Int.reduceAdd,Int.reduceSub]
        refine fin 70 _ (Pd.chk_no (bad fun h => ?_)).symm
        have := (h x hx).1.brk
        rw [hb] at this
        cases this
        exact absurd rfl c7
      · simp only [go_sem,Nat.reduceAdd,Nat.reduceSub,Nat.reduceMul,Nat.reduceEqDiff,Nat.reduceLeDiff,Nat.reduceLT,↓reduceIte,Int.reduceToNat,reduceCtorEq,Int.reduceLT,Int.reduceLE,Int.reduceGT,Int.reduceGE,Int.reduceEq,Int.reduceNe,Int.reduceNeg,Int.reduceAdd,Int.reduceSub,e1]
        refine go (fun z hz => ?_) _ _ (Wk.drop (m := 1) (by simp [wkS, Ch.get]) (Nat.zero_le _) (by simp) (by simp [chLt, AV.lt]) rfl (by simp [Blk.lt, ltL, AV.lt]))
        rw [hx] at hz
        cases hz
        refine ⟨⟨by omega, by omega, by omega, by omega, ?_⟩, hadj⟩
        rw [hb]
        have : (b.toNat : Int) = 204 := Decidable.not_not.1 c7
        exact congrArg some (UInt8.toNat_inj.1 (show b.toNat = (204 : UInt8).toNat by simp; omega))
    · simp only [go_sem,Nat.reduceAdd,Nat.reduceSub,Nat.reduceMul,Nat.reduceEqDiff,Nat.reduceLeDiff,Nat.reduceLT,↓reduceIte,Int.reduceToNat,reduceCtorEq,Int.reduceLT,Int.reduceLE,Int.reduceGT,Int.reduceGE,Int.reduceEq,Int.reduceNe,Int.reduceNeg,Int.reduceAdd,Int.reduceSub,c3]
      have hadj : ∀ y, 0 < i → p.l[i - 1]? = some y → y.at_ < x.at_ := fun z h0 _ => by omega
      refine dG_dec (fun c5 => ?_) (fun c5 => ?_)
      · simp only [go_sem,Nat.reduceAdd,Nat.reduceSub,Nat.reduceMul,Nat.reduceEqDiff,Nat.reduceLeDiff,Nat.reduceLT,↓reduceIte,Int.reduceToNat,reduceCtorEq,Int.reduceLT,Int.reduceLE,Int.reduceGT,Int.reduceGE,Int.reduceEq,Int.reduceNe,Int.reduceNeg,Int.reduceAdd,Int.reduceSub,c5]
        exact fin 70 _ (Pd.chk_no (bad fun h => by have := (h x hx).1.n1; omega)).symm
      simp only [go_sem,Nat.reduceAdd,Nat.reduceSub,Nat.reduceMul,Nat.reduceEqDiff,Nat.reduceLeDiff,Nat.reduceLT,↓reduceIte,Int.reduceToNat,reduceCtorEq,Int.reduceLT,Int.reduceLE,Int.reduceGT,Int.reduceGE,Int.reduceEq,Int.reduceNe,Int.reduceNeg,Int.reduceAdd,Int.reduceSub,c5]
      refine dG_dec (fun c6 => ?_) (fun c6 => ?_)
      · simp only [go_sem,Nat.reduceAdd,Nat.reduceSub,Nat.reduceMul,Nat.reduceEqDiff,Nat.reduceLeDiff,Nat.reduceLT,↓reduceIte,Int.reduceToNat,reduceCtorEq,Int.reduceLT,Int.reduceLE,Int.reduceGT,Int.reduceGE,Int.reduceEq,Int.reduceNe,Int.reduceNeg,Int.reduceAdd,Int.reduceSub,c6]
        exact fin 70 _ (Pd.chk_no (bad fun h => by have := (h x hx).1.n2; omega)).symm
      simp only [go_sem,Nat.reduceAdd,Nat.reduceSub,Nat.reduceMul,Nat.reduceEqDiff,Nat.reduceLeDiff,Nat.reduceLT,↓reduceIte,Int.reduceToNat,reduceCtorEq,Int.reduceLT,Int.reduceLE,Int.reduceGT,Int.reduceGE,Int.reduceEq,Int.reduceNe,Int.reduceNeg,Int.reduceAdd,Int.reduceSub,c6,g2,List.length_map,List.getElem?_map,hb]
      refine condD_dec (fun c7 => ?_) (fun c7 => ?_)
      · simp only [go_sem,Nat.reduceAdd,Nat.reduceSub,Nat.reduceMul,Nat.reduceEqDiff,Nat.reduceLeDiff,Nat.reduceLT,↓reduceIte,Int.reduceToNat,reduceCtorEq,Int.reduceLT,Int.reduceLE,Int.reduceGT,Int.reduceGE,Int.reduceEq,Int.reduceNe,Int.reduceNeg,Int.reduceAdd,Int.reduceSub]
        refine fin 70 _ (Pd.chk_no (bad fun h => ?_)).symm
        have := (h x hx).1.brk
        rw [hb] at this
        cases this
        exact absurd rfl c7
      · simp only [go_sem,Nat.reduceAdd,Nat.reduceSub,Nat.reduceMul,Nat.reduceEqDiff,Nat.reduceLeDiff,Nat.reduceLT,↓reduceIte,Int.reduceToNat,reduceCtorEq,Int.reduceLT,Int.reduceLE,Int.reduceGT,Int.reduceGE,Int.reduceEq,Int.reduceNe,Int.reduceNeg,Int.reduceAdd,Int.reduceSub,e1]
        refine go (fun z hz => ?_) _ _ (Wk.drop (m := 1) (by simp [wkS, Ch.get]) (Nat.zero_le _) (by simp) (by simp [chLt, AV.lt]) rfl (by simp [Blk.lt, ltL, AV.lt]))
        rw [hx] at hz
        cases hz
        refine ⟨⟨by omega, by omega, by omega, by omega, ?_⟩, hadj⟩
        rw [hb]
        have : (b.toNat : Int) = 204 := Decidable.not_not.1 c7
        exact congrArg some (UInt8.toNat_inj.1 (show b.toNat = (204 : UInt8).toNat by simp; omega))
  · simp only [go_sem,Nat.reduceAdd,Nat.reduceSub,Nat.reduceMul,Nat.reduceEqDiff,Nat.reduceLeDiff,Nat.reduceLT,↓reduceIte,Int.reduceToNat,reduceCtorEq,Int.reduceLT,Int.reduceLE,Int.reduceGT,Int.reduceGE,Int.reduceEq,Int.reduceNe,Int.reduceNeg,Int.reduceAdd,Int.reduceSub]
    have : i = p.l.length := by omega
    subst this
    have hall := okAt_all.1 ha
    refine rK_use (enters_of Tryz.func50 rfl (by decide)) (ACalls.pure_use (clean_c p ⟨by have := hs.p32; omega, by omega, by omega⟩ fun y hy => ⟨(hall.2 y hy).a0, (hall.2 y hy).a1⟩) rfl rfl) ?_
    have hcs : p.clean.ok := putL_ok _ _ hs
    simp only [go_sem,Nat.reduceAdd,Nat.reduceSub,Nat.reduceMul,Nat.reduceEqDiff,Nat.reduceLeDiff,Nat.reduceLT,↓reduceIte,Int.reduceToNat,reduceCtorEq,Int.reduceLT,Int.reduceLE,Int.reduceGT,Int.reduceGE,Int.reduceEq,Int.reduceNe,Int.reduceNeg,Int.reduceAdd,Int.reduceSub,Sp.av]
    refine rK_use (enters_of Tryz.func62 rfl (by decide)) ((contains_c p.clean hcs p.l (by omega)).useE [1] (.bool (decide (0 ≤ bad0 p.clean p.l 0))) [.rows 3 [[.view false 1 (p.s.perm.map r1), .view false 1 (p.s.byt.map rb), .view false 3 (p.l.map rp)]], spB (.view false 1 (p.clean.perm.map r1)) (.view false 1 (p.clean.byt.map rb))] (by simp) rfl (by simp) rfl rfl rfl rfl) ?_
    simp only [go_sem,Nat.reduceAdd,Nat.reduceSub,Nat.reduceMul,Nat.reduceEqDiff,Nat.reduceLeDiff,Nat.reduceLT,↓reduceIte,Int.reduceToNat,reduceCtorEq,Int.reduceLT,Int.reduceLE,Int.reduceGT,Int.reduceGE,Int.reduceEq,Int.reduceNe,Int.reduceNeg,Int.reduceAdd,Int.reduceSub]
    have hbd := bad0_lt p.clean p.l 0
    refine condD_dec (fun hz => ?_) (fun hz => ?_)
    · simp only [go_sem,Nat.reduceAdd,Nat.reduceSub,Nat.reduceMul,Nat.reduceEqDiff,Nat.reduceLeDiff,Nat.reduceLT,↓reduceIte,Int.reduceToNat,reduceCtorEq,Int.reduceLT,Int.reduceLE,Int.reduceGT,Int.reduceGE,Int.reduceEq,Int.reduceNe,Int.reduceNeg,Int.reduceAdd,Int.reduceSub]
      exact fin 70 _ (Pd.chk_no fun h => by have := hbd.2 h.std; omega).symm
    · simp only [go_sem,Nat.reduceAdd,Nat.reduceSub,Nat.reduceMul,Nat.reduceEqDiff,Nat.reduceLeDiff,Nat.reduceLT,↓reduceIte,Int.reduceToNat,reduceCtorEq,Int.reduceLT,Int.reduceLE,Int.reduceGT,Int.reduceGE,Int.reduceEq,Int.reduceNe,Int.reduceNeg,Int.reduceAdd,Int.reduceSub]
      exact fin 0 _ (Pd.chk_ok ⟨hs, by omega, hall.1, hall.2, hbd.1 (by omega)⟩).symm
end Go.Proofs.YtfiflailjbmlpaaGreatDoor
set_option maxRecDepth 100000
set_option linter.unusedVariables false
set_option linter.unusedSimpArgs false
namespace Go.Proofs.YtfiflailjbmlpaaGreatDoor
open Go.AM
theorem wr_set {s : Sp} {p i : Nat} {d : List UInt8} {c : UInt8} (h : p + d.length ≤ s.byt.length) (hc : d[i]? = some c) : (s.wr p (d.take i)).byt.set (p + i) c = (s.wr p (d.take (i + 1))).byt := by
  have hi := (List.getElem?_eq_some_iff.1 hc).1
  have e1 : (d.take i).length = i := by simp; omega
  have e2 : (d.take (i + 1)).length = i + 1 := by simp; omega
  have e3 : (s.byt.take p).length = p := by simp; omega
  simp only [Sp.wr, e1, e2]
  rw [List.set_append_right _ _ (by rw [List.length_append, e1, e3]; exact Nat.le_refl _), List.length_append, e1, e3, Nat.sub_self]
  obtain ⟨x, hx⟩ : ∃ x, s.byt.drop (p + i) = x :: s.byt.drop (p + (i + 1)) := by
    refine ⟨s.byt[p + i]'(by omega), ?_⟩
    rw [← Nat.add_assoc]
    exact List.drop_eq_getElem_cons (by omega)
  rw [hx, List.set_cons_zero, List.take_add_one, hc]
  simp
def sameS (a b : Sp) : Bool := decide (a.perm = b.perm) && decide (a.byt = b.byt)
theorem sameS_self (a : Sp) : sameS a a = true := by simp [sameS]
theorem rsamep_c (a b : Sp) (ha : a.perm.length ≤ 9223372036854775807) : ACalls Tryz.prog 66 [a.av, b.av] [] (fun o H => o = .ret (.bool (decide (a.perm = b.perm))) ∧ H = []) := by
  refine ACalls.up ?_
  refine ACalls.intro (cs := []) (n := 31) Tryz.func66 rfl rfl rfl (by kernel_rfl) rfl ?_
  generalize hpost : (fun (o : Out) (H : Heap) => o = Out.ret (.bool (decide (a.perm = b.perm))) ∧ H = []) = post
  have fin : ∀ v H, v = decide (a.perm = b.perm) → Up 0 post (.ret (.bool v)) H := fun v H h => finv rfl (by rw [← hpost, ← h]; exact ⟨rfl, rfl⟩) H
  simp only [go_sem,Nat.reduceAdd,Nat.reduceSub,Nat.reduceMul,Nat.reduceEqDiff,Nat.reduceLeDiff,Nat.reduceLT,↓reduceIte,Int.reduceToNat,reduceCtorEq,Int.reduceLT,Int.reduceLE,Int.reduceGT,Int.reduceGE,Int.reduceEq,Int.reduceNe,Int.reduceNeg,Int.reduceAdd,Int.reduceSub,Sp.av,List.length_map]
  rcases Decidable.em ((a.perm.length : Int) = b.perm.length) with hl | hl
  rotate_left
  · simp only [go_sem,Nat.reduceAdd,Nat.reduceSub,Nat.reduceMul,Nat.reduceEqDiff,Nat.reduceLeDiff,Nat.reduceLT,↓reduceIte,Int.reduceToNat,reduceCtorEq,Int.reduceLT,Int.reduceLE,Int.reduceGT,Int.reduceGE,Int.reduceEq,Int.reduceNe,Int.reduceNeg,Int.reduceAdd,Int.reduceSub,eq_false hl]
    exact fin false _ (decide_eq_false fun h => hl (by rw [h])).symm
  simp only [go_sem,Nat.reduceAdd,Nat.reduceSub,Nat.reduceMul,Nat.reduceEqDiff,Nat.reduceLeDiff,Nat.reduceLT,↓reduceIte,Int.reduceToNat,reduceCtorEq,Int.reduceLT,Int.reduceLE,Int.reduceGT,Int.reduceGE,Int.reduceEq,Int.reduceNe,Int.reduceNeg,Int.reduceAdd,Int.reduceSub,eq_true hl]
  refine loop_fam (fun i : Nat => ((((Ch.nil.put 2 (.ptr 0 0 0)).put 3 (.ptr 1 0 0)).put 5 (iv i)))) (fun _ => [.rows 2 [[.view false 1 (a.perm.map r1), .view false 1 (a.byt.map rb)]], .rows 2 [[.view false 1 (b.perm.map r1), .view false 1 (b.byt.map rb)]]])
    (fun i => a.perm.length - i) (fun i => i ≤ a.perm.length ∧ a.perm.take i = b.perm.take i) 0 (by kernel_rfl) ⟨Nat.zero_le _, by simp⟩ (Wk.slots' rfl (by simp [wkS, Ch.get])) ?_
  rintro i ⟨hi, hsm⟩ K hK
  simp only [go_sem,Nat.reduceAdd,Nat.reduceSub,Nat.reduceMul,Nat.reduceEqDiff,Nat.reduceLeDiff,Nat.reduceLT,↓reduceIte,Int.reduceToNat,reduceCtorEq,Int.reduceLT,Int.reduceLE,Int.reduceGT,Int.reduceGE,Int.reduceEq,Int.reduceNe,Int.reduceNeg,Int.reduceAdd,Int.reduceSub,List.length_map]
  refine condD_dec (fun hc => ?_) (fun hc => ?_)
  · obtain ⟨x, hx⟩ := at_lt (l := a.perm) (i := i) (by omega)
    obtain ⟨y, hy⟩ := at_lt (l := b.perm) (i := i) (by omega)
    have e1 : iw .i64 ((i : Int) + 1) = ((i + 1 : Nat) : Int) := by rw [iw64] <;> omega
    have g1 : (0 : Int) ≤ i ∧ (i : Int) < a.perm.length := ⟨by omega, by omega⟩
    have g2 : (0 : Int) ≤ i ∧ (i : Int) < b.perm.length := ⟨by omega, by omega⟩
    simp only [go_sem,Nat.reduceAdd,Nat.reduceSub,Nat.reduceMul,Nat.reduceEqDiff,Nat.reduceLeDiff,Nat.reduceLT,↓reduceIte,Int.reduceToNat,reduceCtorEq,Int.reduceLT,Int.reduceLE,Int.reduceGT,Int.reduceGE,Int.reduceEq,Int.reduceNe,Int.reduceNeg,Int.reduceAdd,Int.reduceSub]
    refine draw [.qu 0 0, .qu 0 0, .qu 0 0, .qu 0 0, .qu 0 0, .qu 0 0, .qu 0 0, .qu 0 0, .qu 0 0, .qu 0 0, .qu 0 0] (by kernel_rfl) (by kernel_rfl) ?_
    simp only [go_sem,Nat.reduceAdd,Nat.reduceSub,Nat.reduceMul,Nat.reduceEqDiff,Nat.reduceLeDiff,Nat.reduceLT,↓reduceIte,Int.reduceToNat,reduceCtorEq,Int.reduceLT,Int.reduceLE,Int.reduceGT,Int.reduceGE,Int.reduceEq,Int.reduceNe,Int.reduceNeg,Int.reduceAdd,Int.reduceSub,hx,hy,List.getElem?_map,List.length_map,g1,g2]
    rcases Decidable.em (x = y) with hxy | hxy
    · subst hxy
      simp only [go_sem,Nat.reduceAdd,Nat.reduceSub,Nat.reduceMul,Nat.reduceEqDiff,Nat.reduceLeDiff,Nat.reduceLT,↓reduceIte,Int.reduceToNat,reduceCtorEq,Int.reduceLT,Int.reduceLE,Int.reduceGT,Int.reduceGE,Int.reduceEq,Int.reduceNe,Int.reduceNeg,Int.reduceAdd,Int.reduceSub,e1]
      refine hK (i + 1) _ _ ⟨by omega, ?_⟩ (by omega) (Wk.slots' rfl (by simp [wkS, Ch.get]))
      rw [List.take_add_one, List.take_add_one, hsm, hx, hy]
    · simp only [go_sem,Nat.reduceAdd,Nat.reduceSub,Nat.reduceMul,Nat.reduceEqDiff,Nat.reduceLeDiff,Nat.reduceLT,↓reduceIte,Int.reduceToNat,reduceCtorEq,Int.reduceLT,Int.reduceLE,Int.reduceGT,Int.reduceGE,Int.reduceEq,Int.reduceNe,Int.reduceNeg,Int.reduceAdd,Int.reduceSub,eq_false hxy]
      refine fin false _ (decide_eq_false fun h => hxy ?_).symm
      rw [h, hy] at hx
      exact (Option.some.inj hx).symm
  · simp only [go_sem,Nat.reduceAdd,Nat.reduceSub,Nat.reduceMul,Nat.reduceEqDiff,Nat.reduceLeDiff,Nat.reduceLT,↓reduceIte,Int.reduceToNat,reduceCtorEq,Int.reduceLT,Int.reduceLE,Int.reduceGT,Int.reduceGE,Int.reduceEq,Int.reduceNe,Int.reduceNeg,Int.reduceAdd,Int.reduceSub]
    have : i = a.perm.length := by omega
    subst this
    rw [List.take_length, List.take_of_length_le (by omega)] at hsm
    exact fin true _ (decide_eq_true hsm).symm
theorem rsames_c (a b : Sp) (ha : a.perm.length ≤ 9223372036854775807) : ACalls Tryz.prog 28 [a.av, b.av] [] (fun o H => o = .ret (.bool (sameS a b)) ∧ H = []) := by
  refine ACalls.up ?_
  refine ACalls.intro (cs := []) (n := 17) Tryz.func28 rfl rfl rfl (by kernel_rfl) rfl ?_
  generalize hpost : (fun (o : Out) (H : Heap) => o = Out.ret (.bool (sameS a b)) ∧ H = []) = post
  have fin : ∀ v H, v = sameS a b → Up 0 post (.ret (.bool v)) H := fun v H h => finv rfl (by rw [← hpost, ← h]; exact ⟨rfl, rfl⟩) H
  simp only [go_sem,Nat.reduceAdd,Nat.reduceSub,Nat.reduceMul,Nat.reduceEqDiff,Nat.reduceLeDiff,Nat.reduceLT,↓reduceIte,Int.reduceToNat,reduceCtorEq,Int.reduceLT,Int.reduceLE,Int.reduceGT,Int.reduceGE,Int.reduceEq,Int.reduceNe,Int.reduceNeg,Int.reduceAdd,Int.reduceSub,Sp.av]
  refine rK_use (enters_of Tryz.func66 rfl (by decide)) (ACalls.pure_use (rsamep_c a b ha) rfl rfl) ?_
  rcases Decidable.em (a.perm = b.perm) with hp | hp
  · simp only [go_sem,Nat.reduceAdd,Nat.reduceSub,Nat.reduceMul,Nat.reduceEqDiff,Nat.reduceLeDiff,Nat.reduceLT,↓reduceIte,Int.reduceToNat,reduceCtorEq,Int.reduceLT,Int.reduceLE,Int.reduceGT,Int.reduceGE,Int.reduceEq,Int.reduceNe,Int.reduceNeg,Int.reduceAdd,Int.reduceSub,decide_eq_true hp,ba_eq]
    refine fin _ _ ?_
    rw [sameS, decide_eq_true hp, Bool.true_and]
  · simp only [go_sem,Nat.reduceAdd,Nat.reduceSub,Nat.reduceMul,Nat.reduceEqDiff,Nat.reduceLeDiff,Nat.reduceLT,↓reduceIte,Int.reduceToNat,reduceCtorEq,Int.reduceLT,Int.reduceLE,Int.reduceGT,Int.reduceGE,Int.reduceEq,Int.reduceNe,Int.reduceNeg,Int.reduceAdd,Int.reduceSub,decide_eq_false hp,ba_eq]
    refine fin _ _ ?_
    rw [sameS, decide_eq_false hp, Bool.false_and]
theorem rApply_c (s : Sp) (hs : s.ok) (e : Eff) (hp : I64 e.pos) : ACalls Tryz.prog 77 [s.av, e.av] []
    (fun o H => o = .ret (.agg [.view false 1 ((applyR s e).1.perm.map r1), .view false 1 ((applyR s e).1.byt.map rb), iv (applyR s e).2]) ∧ H = []) := by
  refine ACalls.up ?_
  refine ACalls.intro (cs := []) (n := 71) Tryz.func77 rfl rfl rfl (by kernel_rfl) rfl ?_
  generalize hpost : (fun (o : Out) (H : Heap) => o = Out.ret (.agg [.view false 1 ((applyR s e).1.perm.map r1), .view false 1 ((applyR s e).1.byt.map rb), iv (applyR s e).2]) ∧ H = []) = post
  have finN : ∀ H, applyR s e = (sp0, 40) → Up 0 post (.ret (.agg [.view true 0 [], .view true 0 [], iv 40])) H := fun H h =>
    .le (o' := .ret (.agg [.view false 1 (sp0.perm.map r1), .view false 1 (sp0.byt.map rb), iv 40])) (.ret (.agg (.cons (.nil true false 0 1 (by simp)) (.cons (.nil true false 0 1 (by simp)) (.cons (.refl _) .nil))))) (LeH.refl _) (finv rfl (by rw [← hpost, h]; exact ⟨rfl, rfl⟩) H)
  simp only [go_sem,Nat.reduceAdd,Nat.reduceSub,Nat.reduceMul,Nat.reduceEqDiff,Nat.reduceLeDiff,Nat.reduceLT,↓reduceIte,Int.reduceToNat,reduceCtorEq,Int.reduceLT,Int.reduceLE,Int.reduceGT,Int.reduceGE,Int.reduceEq,Int.reduceNe,Int.reduceNeg,Int.reduceAdd,Int.reduceSub,Sp.av,Eff.av,Eff.cells,Eff.cellsD]
  have bad : ¬ Fits s e → applyR s e = (sp0, 40) := fun h => by rw [applyR, if_pos hs, if_neg h]
  have good : Fits s e → applyR s e = (s.wr e.pos.toNat e.data, 0) := fun h => by rw [applyR, if_pos hs, if_pos h]
  simp only [go_sem,Nat.reduceAdd,Nat.reduceSub,Nat.reduceMul,Nat.reduceEqDiff,Nat.reduceLeDiff,Nat.reduceLT,↓reduceIte,Int.reduceToNat,reduceCtorEq,Int.reduceLT,Int.reduceLE,Int.reduceGT,Int.reduceGE,Int.reduceEq,Int.reduceNe,Int.reduceNeg,Int.reduceAdd,Int.reduceSub,List.length_map]
  rcases Decidable.em ((8 : Int) < e.data.length) with h8 | h8
  · simp only [go_sem,Nat.reduceAdd,Nat.reduceSub,Nat.reduceMul,Nat.reduceEqDiff,Nat.reduceLeDiff,Nat.reduceLT,↓reduceIte,Int.reduceToNat,reduceCtorEq,Int.reduceLT,Int.reduceLE,Int.reduceGT,Int.reduceGE,Int.reduceEq,Int.reduceNe,Int.reduceNeg,Int.reduceAdd,Int.reduceSub,eq_true h8]
    exact finN _ (bad fun h => by have := h.len; omega)
  simp only [go_sem,Nat.reduceAdd,Nat.reduceSub,Nat.reduceMul,Nat.reduceEqDiff,Nat.reduceLeDiff,Nat.reduceLT,↓reduceIte,Int.reduceToNat,reduceCtorEq,Int.reduceLT,Int.reduceLE,Int.reduceGT,Int.reduceGE,Int.reduceEq,Int.reduceNe,Int.reduceNeg,Int.reduceAdd,Int.reduceSub,eq_false h8]
  rcases Decidable.em ((e.data.length : Int) = 0) with h0 | h0
  · have h1 : ¬ (0 : Int) < e.data.length := by omega
    rcases Decidable.em (e.pos = 0) with hp0 | hp0
    · have fi : (s.flt e.pos 2 e.data.length 0).kind = 0 → Fits s e := fun h => ⟨by omega, fun _ => hp0, fun h => by omega, h⟩
      simp only [go_sem,Nat.reduceAdd,Nat.reduceSub,Nat.reduceMul,Nat.reduceEqDiff,Nat.reduceLeDiff,Nat.reduceLT,↓reduceIte,Int.reduceToNat,reduceCtorEq,Int.reduceLT,Int.reduceLE,Int.reduceGT,Int.reduceGE,Int.reduceEq,Int.reduceNe,Int.reduceNeg,Int.reduceAdd,Int.reduceSub,eq_true h0,eq_false h1,eq_true hp0]
      refine rK_use (enters_of Tryz.func83 rfl (by decide)) (ACalls.pure_use (rfault_c s hs e.pos 2 e.data.length (by omega) (by simp)) rfl rfl) ?_
      rcases Decidable.em ((s.flt e.pos 2 e.data.length 0).kind = 0) with hk | hk
      rotate_left
      · simp only [go_sem,Nat.reduceAdd,Nat.reduceSub,Nat.reduceMul,Nat.reduceEqDiff,Nat.reduceLeDiff,Nat.reduceLT,↓reduceIte,Int.reduceToNat,reduceCtorEq,Int.reduceLT,Int.reduceLE,Int.reduceGT,Int.reduceGE,Int.reduceEq,Int.reduceNe,Int.reduceNeg,Int.reduceAdd,Int.reduceSub,Flt.cells,hk]
        exact finN _ (bad fun h => hk h.flt)
      have hfit := fi hk
      rw [flt0 _ _ _ _ _ hk]
      simp only [go_sem,Nat.reduceAdd,Nat.reduceSub,Nat.reduceMul,Nat.reduceEqDiff,Nat.reduceLeDiff,Nat.reduceLT,↓reduceIte,Int.reduceToNat,reduceCtorEq,Int.reduceLT,Int.reduceLE,Int.reduceGT,Int.reduceGE,Int.reduceEq,Int.reduceNe,Int.reduceNeg,Int.reduceAdd,Int.reduceSub,Flt.cells]
      have h6 := hs.p32
      have hbl := bytl hs
      have hle : e.pos.toNat + e.data.length ≤ s.byt.length ∨ e.data.length = 0 := by
        rcases Nat.eq_zero_or_pos e.data.length with h | h
        · exact .inr h
        · have := (flt_in hp (by omega) e.data.length 0 (by omega) (by omega) (.inr rfl) (flt_perm0 _ _ hk)).resolve_left (by omega)
          exact .inl (by omega)
      refine drawG [.rows 1 (s.perm.map r1), .rows 1 (s.byt.map rb)] [.gn 1 0 1, .qu 0 1, .rd 0 1, .gm 4 0 1, .gn 1 0 1, .qu 0 1, .rd 0 1, .gm 5 0 1, .qu 0 1, .mn 0, .mn 1] (by kernel_rfl) (by kernel_rfl) (by kernel_rfl) ?_
      simp only [go_sem,Nat.reduceAdd,Nat.reduceSub,Nat.reduceMul,Nat.reduceEqDiff,Nat.reduceLeDiff,Nat.reduceLT,↓reduceIte,Int.reduceToNat,reduceCtorEq,Int.reduceLT,Int.reduceLE,Int.reduceGT,Int.reduceGE,Int.reduceEq,Int.reduceNe,Int.reduceNeg,Int.reduceAdd,Int.reduceSub]
      refine y_gm (b := .rows 1 (s.perm.map r1)) (len := s.perm.length) ?_ rfl trivial ?_
      · exact ⟨rfl, rfl, .inl (by kernel_rfl), by simp; omega, of_decide_eq_true (by kernel_rfl), by kernel_rfl, rfl, by simp⟩
      simp only [go_sem,Nat.reduceAdd,Nat.reduceSub,Nat.reduceMul,Nat.reduceEqDiff,Nat.reduceLeDiff,Nat.reduceLT,↓reduceIte,Int.reduceToNat,reduceCtorEq,Int.reduceLT,Int.reduceLE,Int.reduceGT,Int.reduceGE,Int.reduceEq,Int.reduceNe,Int.reduceNeg,Int.reduceAdd,Int.reduceSub]
      refine y_gm (b := .rows 1 (s.byt.map rb)) (len := s.byt.length) ?_ rfl trivial ?_
      · exact ⟨rfl, rfl, .inl (by kernel_rfl), by simp; omega, of_decide_eq_true (by kernel_rfl), by kernel_rfl, rfl, by simp⟩
      simp only [go_sem,Nat.reduceAdd,Nat.reduceSub,Nat.reduceMul,Nat.reduceEqDiff,Nat.reduceLeDiff,Nat.reduceLT,↓reduceIte,Int.reduceToNat,reduceCtorEq,Int.reduceLT,Int.reduceLE,Int.reduceGT,Int.reduceGE,Int.reduceEq,Int.reduceNe,Int.reduceNeg,Int.reduceAdd,Int.reduceSub]
      refine loop_fam (fun i : Nat => (((((((Ch.nil.put 2 (.ptr 0 0 0)).put 3 (.ptr 1 0 0)).put 4 (.ptr 2 0 0)).put 5 (iv e.data.length)).put 7 (.ptr 6 0 0)).put 8 (iv i))))
        (fun i => [spB (.view false 1 (s.perm.map r1)) (.view false 1 (s.byt.map rb)), .rows 19 [e.cells], .rows 3 [[.view true 0 [], .view true 0 [], iv 0]], .rows 2 [[iv 0, iv 0]], .rows 1 (s.perm.map r1), .rows 1 ((s.wr e.pos.toNat (e.data.take i)).byt.map rb), spB (.sl 4 0 s.perm.length none) (.sl 5 0 s.byt.length none)])
        (fun i => e.data.length - i) (fun i => i ≤ e.data.length) 0 (by kernel_rfl) (Nat.zero_le _) (Wk.slots' (by rw [List.take_zero, wr_nil]; rfl) (by simp [wkS, Ch.get])) ?_
      rintro i hi K hK
      simp only [go_sem,Nat.reduceAdd,Nat.reduceSub,Nat.reduceMul,Nat.reduceEqDiff,Nat.reduceLeDiff,Nat.reduceLT,↓reduceIte,Int.reduceToNat,reduceCtorEq,Int.reduceLT,Int.reduceLE,Int.reduceGT,Int.reduceGE,Int.reduceEq,Int.reduceNe,Int.reduceNeg,Int.reduceAdd,Int.reduceSub,spB]
      refine condD_dec (fun hc => ?_) (fun hc => ?_)
      · obtain ⟨d, hd⟩ := at_lt (l := e.data) (i := i) (by omega)
        have p0 : 0 ≤ e.pos := by
          have := (flt_in hp (by omega) e.data.length 0 (by omega) (by omega) (.inr rfl) (flt_perm0 _ _ hk)).resolve_left (by omega)
          omega
        have hle2 := hle.resolve_right (by omega)
        have e1 : iw .i64 ((i : Int) + 1) = ((i + 1 : Nat) : Int) := by rw [iw64] <;> omega
        have e2 : iw .i64 (e.pos + i) = ((e.pos.toNat + i : Nat) : Int) := by rw [iw64] <;> omega
        have g1 : (0 : Int) ≤ i ∧ (i : Int) < e.data.length := ⟨by omega, by omega⟩
        have g2 : (0 : Int) ≤ ((e.pos.toNat + i : Nat) : Int) ∧ ((e.pos.toNat + i : Nat) : Int) < s.byt.length := ⟨by omega, by omega⟩
        have hlw : (s.wr e.pos.toNat (e.data.take i)).byt.length = s.byt.length := by simp [Sp.wr]; omega
        have hset : ((s.wr e.pos.toNat (e.data.take i)).byt.map rb).set (e.pos.toNat + i) [.int .u8 (d.toNat : Int)] = (s.wr e.pos.toNat (e.data.take (i + 1))).byt.map rb := by
          rw [← wr_set hle2 hd, List.map_set]
        have g3 : e.pos.toNat + i < s.byt.length := by omega
        obtain ⟨z, hz⟩ := at_lt (l := (s.wr e.pos.toNat (e.data.take i)).byt) (i := e.pos.toNat + i) (by omega)
        simp only [go_sem,Nat.reduceAdd,Nat.reduceSub,Nat.reduceMul,Nat.reduceEqDiff,Nat.reduceLeDiff,Nat.reduceLT,↓reduceIte,Int.reduceToNat,reduceCtorEq,Int.reduceLT,Int.reduceLE,Int.reduceGT,Int.reduceGE,Int.reduceEq,Int.reduceNe,Int.reduceNeg,Int.reduceAdd,Int.reduceSub]
        refine draw [.qu 0 0, .qu 0 0, .qu 0 0, .qu 0 0, .qu 0 0, .qu 0 0, .qu 0 0, .qu 0 0, .qu 0 0, .qu 0 0, .qu 0 0, .qu 0 0, .mn 0] (by kernel_rfl) (by kernel_rfl) ?_
        simp only [go_sem,Nat.reduceAdd,Nat.reduceSub,Nat.reduceMul,Nat.reduceEqDiff,Nat.reduceLeDiff,Nat.reduceLT,↓reduceIte,Int.reduceToNat,reduceCtorEq,Int.reduceLT,Int.reduceLE,Int.reduceGT,Int.reduceGE,Int.reduceEq,Int.reduceNe,Int.reduceNeg,Int.reduceAdd,Int.reduceSub,hd,List.getElem?_map,List.length_map,g1,g2,g3,e2,hz,hlw,hset,Eff.cells,Eff.cellsD,e1]
        exact hK (i + 1) _ _ (by omega) (by omega) (Wk.slots' rfl (by simp [wkS, Ch.get]))
      · simp only [go_sem,Nat.reduceAdd,Nat.reduceSub,Nat.reduceMul,Nat.reduceEqDiff,Nat.reduceLeDiff,Nat.reduceLT,↓reduceIte,Int.reduceToNat,reduceCtorEq,Int.reduceLT,Int.reduceLE,Int.reduceGT,Int.reduceGE,Int.reduceEq,Int.reduceNe,Int.reduceNeg,Int.reduceAdd,Int.reduceSub]
        have : i = e.data.length := by omega
        subst this
        rw [List.take_length]
        have hlw : (s.wr e.pos.toNat e.data).byt.length = s.byt.length := by rcases hle with h | h <;> simp [Sp.wr] <;> omega
        refine up_two 4 1 (s.perm.map r1) 5 1 ((s.wr e.pos.toNat e.data).byt.map rb) (by decide) rfl rfl (r1_lt0 _) (rb_lt0 _) ?_ ?_ ?_ ?_
        · simp [Out.fzOk, AV.fzOk, fzOkL]
        · simp [Out.fzOk, Out.fz, AV.fz, fzL, AV.fzOk, fzOkL, hlw]
        · simp [Out.fz, AV.fz, fzL, Out.lt, AV.lt, ltL]
        · rw [← hpost, good hfit]
          refine ⟨?_, rfl⟩
          have e4 : ((s.wr e.pos.toNat e.data).byt.map rb).take s.byt.length = (s.wr e.pos.toNat e.data).byt.map rb := List.take_of_length_le (by simp [hlw])
          simp [Out.fz, AV.fz, fzL, e4]
          exact tk_r1 _
    · simp only [go_sem,Nat.reduceAdd,Nat.reduceSub,Nat.reduceMul,Nat.reduceEqDiff,Nat.reduceLeDiff,Nat.reduceLT,↓reduceIte,Int.reduceToNat,reduceCtorEq,Int.reduceLT,Int.reduceLE,Int.reduceGT,Int.reduceGE,Int.reduceEq,Int.reduceNe,Int.reduceNeg,Int.reduceAdd,Int.reduceSub,eq_true h0,eq_false hp0]
      exact finN _ (bad fun h => hp0 (h.pos (by omega)))
  · have h1 : (0 : Int) < e.data.length := by omega
    rcases Decidable.em (e.trap.kind = 0) with ht | ht
    · have fi : (s.flt e.pos 2 e.data.length 0).kind = 0 → Fits s e := fun h => ⟨by omega, fun h => by omega, fun _ => ht, h⟩
      simp only [go_sem,Nat.reduceAdd,Nat.reduceSub,Nat.reduceMul,Nat.reduceEqDiff,Nat.reduceLeDiff,Nat.reduceLT,↓reduceIte,Int.reduceToNat,reduceCtorEq,Int.reduceLT,Int.reduceLE,Int.reduceGT,Int.reduceGE,Int.reduceEq,Int.reduceNe,Int.reduceNeg,Int.reduceAdd,Int.reduceSub,eq_false h0,eq_true h1,eq_true ht]
      refine rK_use (enters_of Tryz.func83 rfl (by decide)) (ACalls.pure_use (rfault_c s hs e.pos 2 e.data.length (by omega) (by simp)) rfl rfl) ?_
      rcases Decidable.em ((s.flt e.pos 2 e.data.length 0).kind = 0) with hk | hk
      rotate_left
      · simp only [go_sem,Nat.reduceAdd,Nat.reduceSub,Nat.reduceMul,Nat.reduceEqDiff,Nat.reduceLeDiff,Nat.reduceLT,↓reduceIte,Int.reduceToNat,reduceCtorEq,Int.reduceLT,Int.reduceLE,Int.reduceGT,Int.reduceGE,Int.reduceEq,Int.reduceNe,Int.reduceNeg,Int.reduceAdd,Int.reduceSub,Flt.cells,hk]
        exact finN _ (bad fun h => hk h.flt)
      have hfit := fi hk
      rw [flt0 _ _ _ _ _ hk]
      simp only [go_sem,Nat.reduceAdd,Nat.reduceSub,Nat.reduceMul,Nat.reduceEqDiff,Nat.reduceLeDiff,Nat.reduceLT,↓reduceIte,Int.reduceToNat,reduceCtorEq,Int.reduceLT,Int.reduceLE,Int.reduceGT,Int.reduceGE,Int.reduceEq,Int.reduceNe,Int.reduceNeg,Int.reduceAdd,Int.reduceSub,Flt.cells]
      have h6 := hs.p32
      have hbl := bytl hs
      have hle : e.pos.toNat + e.data.length ≤ s.byt.length ∨ e.data.length = 0 := by
        rcases Nat.eq_zero_or_pos e.data.length with h | h
        · exact .inr h
        · have := (flt_in hp (by omega) e.data.length 0 (by omega) (by omega) (.inr rfl) (flt_perm0 _ _ hk)).resolve_left (by omega)
          exact .inl (by omega)
      refine drawG [.rows 1 (s.perm.map r1), .rows 1 (s.byt.map rb)] [.gn 1 0 1, .qu 0 1, .rd 0 1, .gm 4 0 1, .gn 1 0 1, .qu 0 1, .rd 0 1, .gm 5 0 1, .qu 0 1, .mn 0, .mn 1] (by kernel_rfl) (by kernel_rfl) (by kernel_rfl) ?_
      simp only [go_sem,Nat.reduceAdd,Nat.reduceSub,Nat.reduceMul,Nat.reduceEqDiff,Nat.reduceLeDiff,Nat.reduceLT,↓reduceIte,Int.reduceToNat,reduceCtorEq,Int.reduceLT,Int.reduceLE,Int.reduceGT,Int.reduceGE,Int.reduceEq,Int.reduceNe,Int.reduceNeg,Int.reduceAdd,Int.reduceSub]
      refine y_gm (b := .rows 1 (s.perm.map r1)) (len := s.perm.length) ?_ rfl trivial ?_
      · exact ⟨rfl, rfl, .inl (by kernel_rfl), by simp; omega, of_decide_eq_true (by kernel_rfl), by kernel_rfl, rfl, by simp⟩
      simp only [go_sem,Nat.reduceAdd,Nat.reduceSub,Nat.reduceMul,Nat.reduceEqDiff,Nat.reduceLeDiff,Nat.reduceLT,↓reduceIte,Int.reduceToNat,reduceCtorEq,Int.reduceLT,Int.reduceLE,Int.reduceGT,Int.reduceGE,Int.reduceEq,Int.reduceNe,Int.reduceNeg,Int.reduceAdd,Int.reduceSub]
      refine y_gm (b := .rows 1 (s.byt.map rb)) (len := s.byt.length) ?_ rfl trivial ?_
      · exact ⟨rfl, rfl, .inl (by kernel_rfl), by simp; omega, of_decide_eq_true (by kernel_rfl), by kernel_rfl, rfl, by simp⟩
      simp only [go_sem,Nat.reduceAdd,Nat.reduceSub,Nat.reduceMul,Nat.reduceEqDiff,Nat.reduceLeDiff,Nat.reduceLT,↓reduceIte,Int.reduceToNat,reduceCtorEq,Int.reduceLT,Int.reduceLE,Int.reduceGT,Int.reduceGE,Int.reduceEq,Int.reduceNe,Int.reduceNeg,Int.reduceAdd,Int.reduceSub]
      refine loop_fam (fun i : Nat => (((((((Ch.nil.put 2 (.ptr 0 0 0)).put 3 (.ptr 1 0 0)).put 4 (.ptr 2 0 0)).put 5 (iv e.data.length)).put 7 (.ptr 6 0 0)).put 8 (iv i))))
        (fun i => [spB (.view false 1 (s.perm.map r1)) (.view false 1 (s.byt.map rb)), .rows 19 [e.cells], .rows 3 [[.view true 0 [], .view true 0 [], iv 0]], .rows 2 [[iv 0, iv 0]], .rows 1 (s.perm.map r1), .rows 1 ((s.wr e.pos.toNat (e.data.take i)).byt.map rb), spB (.sl 4 0 s.perm.length none) (.sl 5 0 s.byt.length none)])
        (fun i => e.data.length - i) (fun i => i ≤ e.data.length) 0 (by kernel_rfl) (Nat.zero_le _) (Wk.slots' (by rw [List.take_zero, wr_nil]; rfl) (by simp [wkS, Ch.get])) ?_
      rintro i hi K hK
      simp only [go_sem,Nat.reduceAdd,Nat.reduceSub,Nat.reduceMul,Nat.reduceEqDiff,Nat.reduceLeDiff,Nat.reduceLT,↓reduceIte,Int.reduceToNat,reduceCtorEq,Int.reduceLT,Int.reduceLE,Int.reduceGT,Int.reduceGE,Int.reduceEq,Int.reduceNe,Int.reduceNeg,Int.reduceAdd,Int.reduceSub,spB]
      refine condD_dec (fun hc => ?_) (fun hc => ?_)
      · obtain ⟨d, hd⟩ := at_lt (l := e.data) (i := i) (by omega)
        have p0 : 0 ≤ e.pos := by
          have := (flt_in hp (by omega) e.data.length 0 (by omega) (by omega) (.inr rfl) (flt_perm0 _ _ hk)).resolve_left (by omega)
          omega
        have hle2 := hle.resolve_right (by omega)
        have e1 : iw .i64 ((i : Int) + 1) = ((i + 1 : Nat) : Int) := by rw [iw64] <;> omega
        have e2 : iw .i64 (e.pos + i) = ((e.pos.toNat + i : Nat) : Int) := by rw [iw64] <;> omega
        have g1 : (0 : Int) ≤ i ∧ (i : Int) < e.data.length := ⟨by omega, by omega⟩
        have g2 : (0 : Int) ≤ ((e.pos.toNat + i : Nat) : Int) ∧ ((e.pos.toNat + i : Nat) : Int) < s.byt.length := ⟨by omega, by omega⟩
        have hlw : (s.wr e.pos.toNat (e.data.take i)).byt.length = s.byt.length := by simp [Sp.wr]; omega
        have hset : ((s.wr e.pos.toNat (e.data.take i)).byt.map rb).set (e.pos.toNat + i) [.int .u8 (d.toNat : Int)] = (s.wr e.pos.toNat (e.data.take (i + 1))).byt.map rb := by
          rw [← wr_set hle2 hd, List.map_set]
        have g3 : e.pos.toNat + i < s.byt.length := by omega
        obtain ⟨z, hz⟩ := at_lt (l := (s.wr e.pos.toNat (e.data.take i)).byt) (i := e.pos.toNat + i) (by omega)
        simp only [go_sem,Nat.reduceAdd,Nat.reduceSub,Nat.reduceMul,Nat.reduceEqDiff,Nat.reduceLeDiff,Nat.reduceLT,↓reduceIte,Int.reduceToNat,reduceCtorEq,Int.reduceLT,Int.reduceLE,Int.reduceGT,Int.reduceGE,Int.reduceEq,Int.reduceNe,Int.reduceNeg,Int.reduceAdd,Int.reduceSub]
        refine draw [.qu 0 0, .qu 0 0, .qu 0 0, .qu 0 0, .qu 0 0, .qu 0 0, .qu 0 0, .qu 0 0, .qu 0 0, .qu 0 0, .qu 0 0, .qu 0 0, .mn 0] (by kernel_rfl) (by kernel_rfl) ?_
        simp only [go_sem,Nat.reduceAdd,Nat.reduceSub,Nat.reduceMul,Nat.reduceEqDiff,Nat.reduceLeDiff,Nat.reduceLT,↓reduceIte,Int.reduceToNat,reduceCtorEq,Int.reduceLT,Int.reduceLE,Int.reduceGT,Int.reduceGE,Int.reduceEq,Int.reduceNe,Int.reduceNeg,Int.reduceAdd,Int.reduceSub,hd,List.getElem?_map,List.length_map,g1,g2,g3,e2,hz,hlw,hset,Eff.cells,Eff.cellsD,e1]
        exact hK (i + 1) _ _ (by omega) (by omega) (Wk.slots' rfl (by simp [wkS, Ch.get]))
      · simp only [go_sem,Nat.reduceAdd,Nat.reduceSub,Nat.reduceMul,Nat.reduceEqDiff,Nat.reduceLeDiff,Nat.reduceLT,↓reduceIte,Int.reduceToNat,reduceCtorEq,Int.reduceLT,Int.reduceLE,Int.reduceGT,Int.reduceGE,Int.reduceEq,Int.reduceNe,Int.reduceNeg,Int.reduceAdd,Int.reduceSub]
        have : i = e.data.length := by omega
        subst this
        rw [List.take_length]
        have hlw : (s.wr e.pos.toNat e.data).byt.length = s.byt.length := by rcases hle with h | h <;> simp [Sp.wr] <;> omega
        refine up_two 4 1 (s.perm.map r1) 5 1 ((s.wr e.pos.toNat e.data).byt.map rb) (by decide) rfl rfl (r1_lt0 _) (rb_lt0 _) ?_ ?_ ?_ ?_
        · simp [Out.fzOk, AV.fzOk, fzOkL]
        · simp [Out.fzOk, Out.fz, AV.fz, fzL, AV.fzOk, fzOkL, hlw]
        · simp [Out.fz, AV.fz, fzL, Out.lt, AV.lt, ltL]
        · rw [← hpost, good hfit]
          refine ⟨?_, rfl⟩
          have e4 : ((s.wr e.pos.toNat e.data).byt.map rb).take s.byt.length = (s.wr e.pos.toNat e.data).byt.map rb := List.take_of_length_le (by simp [hlw])
          simp [Out.fz, AV.fz, fzL, e4]
          exact tk_r1 _
    · simp only [go_sem,Nat.reduceAdd,Nat.reduceSub,Nat.reduceMul,Nat.reduceEqDiff,Nat.reduceLeDiff,Nat.reduceLT,↓reduceIte,Int.reduceToNat,reduceCtorEq,Int.reduceLT,Int.reduceLE,Int.reduceGT,Int.reduceGE,Int.reduceEq,Int.reduceNe,Int.reduceNeg,Int.reduceAdd,Int.reduceSub,eq_false h0,eq_true h1,eq_false ht]
      exact finN _ (bad fun h => ht (h.trap (by omega)))
end Go.Proofs.YtfiflailjbmlpaaGreatDoor
set_option maxRecDepth 100000
set_option linter.unusedVariables false
set_option linter.unusedSimpArgs false
namespace Go.Proofs.YtfiflailjbmlpaaGreatDoor
open Go.AM
instance : DecidableEq Pt := fun a b => decidable_of_iff (a.at_ = b.at_ ∧ a.old = b.old ∧ a.n = b.n) (by cases a; cases b; simp)
theorem eqI_c (a b : List Int) (ha : a.length ≤ 9223372036854775807) : ACalls Tryz.prog 68 [.view false 1 (a.map r1), .view false 1 (b.map r1)] [] (fun o H => o = .ret (.bool (decide (a = b))) ∧ H = []) := by
  refine ACalls.up ?_
  refine ACalls.intro (cs := []) (n := 26) Tryz.func68 rfl rfl rfl (by kernel_rfl) rfl ?_
  generalize hpost : (fun (o : Out) (H : Heap) => o = Out.ret (.bool (decide (a = b))) ∧ H = []) = post
  have fin : ∀ v H, v = decide (a = b) → Up 0 post (.ret (.bool v)) H := fun v H h => finv rfl (by rw [← hpost, ← h]; exact ⟨rfl, rfl⟩) H
  simp only [go_sem,Nat.reduceAdd,Nat.reduceSub,Nat.reduceMul,Nat.reduceEqDiff,Nat.reduceLeDiff,Nat.reduceLT,↓reduceIte,Int.reduceToNat,reduceCtorEq,Int.reduceLT,Int.reduceLE,Int.reduceGT,Int.reduceGE,Int.reduceEq,Int.reduceNe,Int.reduceNeg,Int.reduceAdd,Int.reduceSub,List.length_map]
  rcases Decidable.em ((a.length : Int) = b.length) with hl | hl
  rotate_left
  · simp only [go_sem,Nat.reduceAdd,Nat.reduceSub,Nat.reduceMul,Nat.reduceEqDiff,Nat.reduceLeDiff,Nat.reduceLT,↓reduceIte,Int.reduceToNat,reduceCtorEq,Int.reduceLT,Int.reduceLE,Int.reduceGT,Int.reduceGE,Int.reduceEq,Int.reduceNe,Int.reduceNeg,Int.reduceAdd,Int.reduceSub,eq_false hl]
    exact fin false _ (decide_eq_false fun h => hl (by rw [h])).symm
  simp only [go_sem,Nat.reduceAdd,Nat.reduceSub,Nat.reduceMul,Nat.reduceEqDiff,Nat.reduceLeDiff,Nat.reduceLT,↓reduceIte,Int.reduceToNat,reduceCtorEq,Int.reduceLT,Int.reduceLE,Int.reduceGT,Int.reduceGE,Int.reduceEq,Int.reduceNe,Int.reduceNeg,Int.reduceAdd,Int.reduceSub,eq_true hl,List.length_map]
  refine loop_fam (fun i : Nat => ((((Ch.nil.put 0 (.view false 1 (a.map r1))).put 1 (.view false 1 (b.map r1))).put 12 (iv a.length)).put 13 (iv i))) (fun _ => [])
    (fun i => a.length - i) (fun i => i ≤ a.length ∧ a.take i = b.take i) 0 (by kernel_rfl) ⟨Nat.zero_le _, by simp⟩ (Wk.slots' rfl (by simp [wkS, Ch.get])) ?_
  rintro i ⟨hi, hsm⟩ K hK
  simp only [go_sem,Nat.reduceAdd,Nat.reduceSub,Nat.reduceMul,Nat.reduceEqDiff,Nat.reduceLeDiff,Nat.reduceLT,↓reduceIte,Int.reduceToNat,reduceCtorEq,Int.reduceLT,Int.reduceLE,Int.reduceGT,Int.reduceGE,Int.reduceEq,Int.reduceNe,Int.reduceNeg,Int.reduceAdd,Int.reduceSub]
  refine condD_dec (fun hc => ?_) (fun hc => ?_)
  · obtain ⟨x, hx⟩ := at_lt (l := a) (i := i) (by omega)
    obtain ⟨y, hy⟩ := at_lt (l := b) (i := i) (by omega)
    have e1 : iw .i64 ((i : Int) + 1) = ((i + 1 : Nat) : Int) := by rw [iw64] <;> omega
    have g1 : (0 : Int) ≤ i ∧ (i : Int) < a.length := ⟨by omega, by omega⟩
    have g2 : (0 : Int) ≤ i ∧ (i : Int) < b.length := ⟨by omega, by omega⟩
    simp only [go_sem,Nat.reduceAdd,Nat.reduceSub,Nat.reduceMul,Nat.reduceEqDiff,Nat.reduceLeDiff,Nat.reduceLT,↓reduceIte,Int.reduceToNat,reduceCtorEq,Int.reduceLT,Int.reduceLE,Int.reduceGT,Int.reduceGE,Int.reduceEq,Int.reduceNe,Int.reduceNeg,Int.reduceAdd,Int.reduceSub]
    refine draw [.qu 0 0, .qu 0 0, .qu 0 0, .qu 0 0, .qu 0 0, .qu 0 0, .qu 0 0, .qu 0 0, .qu 0 0] (by kernel_rfl) (by kernel_rfl) ?_
    simp only [go_sem,Nat.reduceAdd,Nat.reduceSub,Nat.reduceMul,Nat.reduceEqDiff,Nat.reduceLeDiff,Nat.reduceLT,↓reduceIte,Int.reduceToNat,reduceCtorEq,Int.reduceLT,Int.reduceLE,Int.reduceGT,Int.reduceGE,Int.reduceEq,Int.reduceNe,Int.reduceNeg,Int.reduceAdd,Int.reduceSub,hx,hy,List.getElem?_map,List.length_map,g1,g2]
    have same : x = y → ∀ s' H', Wk 0 26 s' H' ((((Ch.nil.put 0 (.view false 1 (a.map r1))).put 1 (.view false 1 (b.map r1))).put 12 (iv a.length)).put 13 (iv (i + 1 : Nat))) [] → K s' H' := fun hxy s' H' hw =>
      hK (i + 1) s' H' ⟨by omega, by rw [List.take_add_one, List.take_add_one, hsm, hx, hy, hxy]⟩ (by omega) hw
    have diff : x ≠ y → decide (a = b) = false := fun hxy => decide_eq_false fun h => hxy (by rw [h, hy] at hx; exact (Option.some.inj hx).symm)
    rcases Decidable.em (x = y) with hxy | hxy
    · subst hxy
      simp only [go_sem,Nat.reduceAdd,Nat.reduceSub,Nat.reduceMul,Nat.reduceEqDiff,Nat.reduceLeDiff,Nat.reduceLT,↓reduceIte,Int.reduceToNat,reduceCtorEq,Int.reduceLT,Int.reduceLE,Int.reduceGT,Int.reduceGE,Int.reduceEq,Int.reduceNe,Int.reduceNeg,Int.reduceAdd,Int.reduceSub,e1]
      exact same rfl _ _ (Wk.slots' rfl (by simp [wkS, Ch.get]))
    · simp only [go_sem,Nat.reduceAdd,Nat.reduceSub,Nat.reduceMul,Nat.reduceEqDiff,Nat.reduceLeDiff,Nat.reduceLT,↓reduceIte,Int.reduceToNat,reduceCtorEq,Int.reduceLT,Int.reduceLE,Int.reduceGT,Int.reduceGE,Int.reduceEq,Int.reduceNe,Int.reduceNeg,Int.reduceAdd,Int.reduceSub,eq_false hxy]
      exact fin false _ (diff hxy).symm
  · simp only [go_sem,Nat.reduceAdd,Nat.reduceSub,Nat.reduceMul,Nat.reduceEqDiff,Nat.reduceLeDiff,Nat.reduceLT,↓reduceIte,Int.reduceToNat,reduceCtorEq,Int.reduceLT,Int.reduceLE,Int.reduceGT,Int.reduceGE,Int.reduceEq,Int.reduceNe,Int.reduceNeg,Int.reduceAdd,Int.reduceSub]
    have : i = a.length := by omega
    subst this
    rw [List.take_length, List.take_of_length_le (by omega)] at hsm
    exact fin true _ (decide_eq_true hsm).symm
theorem eqB_c (a b : List UInt8) (ha : a.length ≤ 9223372036854775807) : ACalls Tryz.prog 69 [.view false 1 (a.map rb), .view false 1 (b.map rb)] [] (fun o H => o = .ret (.bool (decide (a = b))) ∧ H = []) := by
  refine ACalls.up ?_
  refine ACalls.intro (cs := []) (n := 26) Tryz.func69 rfl rfl rfl (by kernel_rfl) rfl ?_
  generalize hpost : (fun (o : Out) (H : Heap) => o = Out.ret (.bool (decide (a = b))) ∧ H = []) = post
  have fin : ∀ v H, v = decide (a = b) → Up 0 post (.ret (.bool v)) H := fun v H h => finv rfl (by rw [← hpost, ← h]; exact ⟨rfl, rfl⟩) H
  simp only [go_sem,Nat.reduceAdd,Nat.reduceSub,Nat.reduceMul,Nat.reduceEqDiff,Nat.reduceLeDiff,Nat.reduceLT,↓reduceIte,Int.reduceToNat,reduceCtorEq,Int.reduceLT,Int.reduceLE,Int.reduceGT,Int.reduceGE,Int.reduceEq,Int.reduceNe,Int.reduceNeg,Int.reduceAdd,Int.reduceSub,List.length_map]
  rcases Decidable.em ((a.length : Int) = b.length) with hl | hl
  rotate_left
  · simp only [go_sem,Nat.reduceAdd,Nat.reduceSub,Nat.reduceMul,Nat.reduceEqDiff,Nat.reduceLeDiff,Nat.reduceLT,↓reduceIte,Int.reduceToNat,reduceCtorEq,Int.reduceLT,Int.reduceLE,Int.reduceGT,Int.reduceGE,Int.reduceEq,Int.reduceNe,Int.reduceNeg,Int.reduceAdd,Int.reduceSub,eq_false hl]
    exact fin false _ (decide_eq_false fun h => hl (by rw [h])).symm
  simp only [go_sem,Nat.reduceAdd,Nat.reduceSub,Nat.reduceMul,Nat.reduceEqDiff,Nat.reduceLeDiff,Nat.reduceLT,↓reduceIte,Int.reduceToNat,reduceCtorEq,Int.reduceLT,Int.reduceLE,Int.reduceGT,Int.reduceGE,Int.reduceEq,Int.reduceNe,Int.reduceNeg,Int.reduceAdd,Int.reduceSub,eq_true hl,List.length_map]
  refine loop_fam (fun i : Nat => ((((Ch.nil.put 0 (.view false 1 (a.map rb))).put 1 (.view false 1 (b.map rb))).put 12 (iv a.length)).put 13 (iv i))) (fun _ => [])
    (fun i => a.length - i) (fun i => i ≤ a.length ∧ a.take i = b.take i) 0 (by kernel_rfl) ⟨Nat.zero_le _, by simp⟩ (Wk.slots' rfl (by simp [wkS, Ch.get])) ?_
  rintro i ⟨hi, hsm⟩ K hK
  simp only [go_sem,Nat.reduceAdd,Nat.reduceSub,Nat.reduceMul,Nat.reduceEqDiff,Nat.reduceLeDiff,Nat.reduceLT,↓reduceIte,Int.reduceToNat,reduceCtorEq,Int.reduceLT,Int.reduceLE,Int.reduceGT,Int.reduceGE,Int.reduceEq,Int.reduceNe,Int.reduceNeg,Int.reduceAdd,Int.reduceSub]
  refine condD_dec (fun hc => ?_) (fun hc => ?_)
  · obtain ⟨x, hx⟩ := at_lt (l := a) (i := i) (by omega)
    obtain ⟨y, hy⟩ := at_lt (l := b) (i := i) (by omega)
    have e1 : iw .i64 ((i : Int) + 1) = ((i + 1 : Nat) : Int) := by rw [iw64] <;> omega
    have g1 : (0 : Int) ≤ i ∧ (i : Int) < a.length := ⟨by omega, by omega⟩
    have g2 : (0 : Int) ≤ i ∧ (i : Int) < b.length := ⟨by omega, by omega⟩
    simp only [go_sem,Nat.reduceAdd,Nat.reduceSub,Nat.reduceMul,Nat.reduceEqDiff,Nat.reduceLeDiff,Nat.reduceLT,↓reduceIte,Int.reduceToNat,reduceCtorEq,Int.reduceLT,Int.reduceLE,Int.reduceGT,Int.reduceGE,Int.reduceEq,Int.reduceNe,Int.reduceNeg,Int.reduceAdd,Int.reduceSub]
    refine draw [.qu 0 0, .qu 0 0, .qu 0 0, .qu 0 0, .qu 0 0, .qu 0 0, .qu 0 0, .qu 0 0, .qu 0 0] (by kernel_rfl) (by kernel_rfl) ?_
    simp only [go_sem,Nat.reduceAdd,Nat.reduceSub,Nat.reduceMul,Nat.reduceEqDiff,Nat.reduceLeDiff,Nat.reduceLT,↓reduceIte,Int.reduceToNat,reduceCtorEq,Int.reduceLT,Int.reduceLE,Int.reduceGT,Int.reduceGE,Int.reduceEq,Int.reduceNe,Int.reduceNeg,Int.reduceAdd,Int.reduceSub,hx,hy,List.getElem?_map,List.length_map,g1,g2]
    have same : x = y → ∀ s' H', Wk 0 26 s' H' ((((Ch.nil.put 0 (.view false 1 (a.map rb))).put 1 (.view false 1 (b.map rb))).put 12 (iv a.length)).put 13 (iv (i + 1 : Nat))) [] → K s' H' := fun hxy s' H' hw =>
      hK (i + 1) s' H' ⟨by omega, by rw [List.take_add_one, List.take_add_one, hsm, hx, hy, hxy]⟩ (by omega) hw
    have diff : x ≠ y → decide (a = b) = false := fun hxy => decide_eq_false fun h => hxy (by rw [h, hy] at hx; exact (Option.some.inj hx).symm)
    rcases Decidable.em (x = y) with hxy | hxy
    · subst hxy
      simp only [go_sem,Nat.reduceAdd,Nat.reduceSub,Nat.reduceMul,Nat.reduceEqDiff,Nat.reduceLeDiff,Nat.reduceLT,↓reduceIte,Int.reduceToNat,reduceCtorEq,Int.reduceLT,Int.reduceLE,Int.reduceGT,Int.reduceGE,Int.reduceEq,Int.reduceNe,Int.reduceNeg,Int.reduceAdd,Int.reduceSub,e1]
      exact same rfl _ _ (Wk.slots' rfl (by simp [wkS, Ch.get]))
    · have hne : ¬ ((x.toNat : Int) = y.toNat) := fun h => hxy (UInt8.toNat_inj.1 (by omega))
      simp only [go_sem,Nat.reduceAdd,Nat.reduceSub,Nat.reduceMul,Nat.reduceEqDiff,Nat.reduceLeDiff,Nat.reduceLT,↓reduceIte,Int.reduceToNat,reduceCtorEq,Int.reduceLT,Int.reduceLE,Int.reduceGT,Int.reduceGE,Int.reduceEq,Int.reduceNe,Int.reduceNeg,Int.reduceAdd,Int.reduceSub,eq_false hne]
      exact fin false _ (diff hxy).symm
  · simp only [go_sem,Nat.reduceAdd,Nat.reduceSub,Nat.reduceMul,Nat.reduceEqDiff,Nat.reduceLeDiff,Nat.reduceLT,↓reduceIte,Int.reduceToNat,reduceCtorEq,Int.reduceLT,Int.reduceLE,Int.reduceGT,Int.reduceGE,Int.reduceEq,Int.reduceNe,Int.reduceNeg,Int.reduceAdd,Int.reduceSub]
    have : i = a.length := by omega
    subst this
    rw [List.take_length, List.take_of_length_le (by omega)] at hsm
    exact fin true _ (decide_eq_true hsm).symm
theorem eqP_c (a b : List Pt) (ha : a.length ≤ 9223372036854775807) : ACalls Tryz.prog 67 [.view false 3 (a.map rp), .view false 3 (b.map rp)] [] (fun o H => o = .ret (.bool (decide (a = b))) ∧ H = []) := by
  refine ACalls.up ?_
  refine ACalls.intro (cs := []) (n := 26) Tryz.func67 rfl rfl rfl (by kernel_rfl) rfl ?_
  generalize hpost : (fun (o : Out) (H : Heap) => o = Out.ret (.bool (decide (a = b))) ∧ H = []) = post
  have fin : ∀ v H, v = decide (a = b) → Up 0 post (.ret (.bool v)) H := fun v H h => finv rfl (by rw [← hpost, ← h]; exact ⟨rfl, rfl⟩) H
  simp only [go_sem,Nat.reduceAdd,Nat.reduceSub,Nat.reduceMul,Nat.reduceEqDiff,Nat.reduceLeDiff,Nat.reduceLT,↓reduceIte,Int.reduceToNat,reduceCtorEq,Int.reduceLT,Int.reduceLE,Int.reduceGT,Int.reduceGE,Int.reduceEq,Int.reduceNe,Int.reduceNeg,Int.reduceAdd,Int.reduceSub,List.length_map]
  rcases Decidable.em ((a.length : Int) = b.length) with hl | hl
  rotate_left
  · simp only [go_sem,Nat.reduceAdd,Nat.reduceSub,Nat.reduceMul,Nat.reduceEqDiff,Nat.reduceLeDiff,Nat.reduceLT,↓reduceIte,Int.reduceToNat,reduceCtorEq,Int.reduceLT,Int.reduceLE,Int.reduceGT,Int.reduceGE,Int.reduceEq,Int.reduceNe,Int.reduceNeg,Int.reduceAdd,Int.reduceSub,eq_false hl]
    exact fin false _ (decide_eq_false fun h => hl (by rw [h])).symm
  simp only [go_sem,Nat.reduceAdd,Nat.reduceSub,Nat.reduceMul,Nat.reduceEqDiff,Nat.reduceLeDiff,Nat.reduceLT,↓reduceIte,Int.reduceToNat,reduceCtorEq,Int.reduceLT,Int.reduceLE,Int.reduceGT,Int.reduceGE,Int.reduceEq,Int.reduceNe,Int.reduceNeg,Int.reduceAdd,Int.reduceSub,eq_true hl,List.length_map]
  refine loop_fam (fun i : Nat => ((((Ch.nil.put 0 (.view false 3 (a.map rp))).put 1 (.view false 3 (b.map rp))).put 12 (iv a.length)).put 13 (iv i))) (fun _ => [])
    (fun i => a.length - i) (fun i => i ≤ a.length ∧ a.take i = b.take i) 0 (by kernel_rfl) ⟨Nat.zero_le _, by simp⟩ (Wk.slots' rfl (by simp [wkS, Ch.get])) ?_
  rintro i ⟨hi, hsm⟩ K hK
  simp only [go_sem,Nat.reduceAdd,Nat.reduceSub,Nat.reduceMul,Nat.reduceEqDiff,Nat.reduceLeDiff,Nat.reduceLT,↓reduceIte,Int.reduceToNat,reduceCtorEq,Int.reduceLT,Int.reduceLE,Int.reduceGT,Int.reduceGE,Int.reduceEq,Int.reduceNe,Int.reduceNeg,Int.reduceAdd,Int.reduceSub]
  refine condD_dec (fun hc => ?_) (fun hc => ?_)
  · obtain ⟨x, hx⟩ := at_lt (l := a) (i := i) (by omega)
    obtain ⟨y, hy⟩ := at_lt (l := b) (i := i) (by omega)
    have e1 : iw .i64 ((i : Int) + 1) = ((i + 1 : Nat) : Int) := by rw [iw64] <;> omega
    have g1 : (0 : Int) ≤ i ∧ (i : Int) < a.length := ⟨by omega, by omega⟩
    have g2 : (0 : Int) ≤ i ∧ (i : Int) < b.length := ⟨by omega, by omega⟩
    simp only [go_sem,Nat.reduceAdd,Nat.reduceSub,Nat.reduceMul,Nat.reduceEqDiff,Nat.reduceLeDiff,Nat.reduceLT,↓reduceIte,Int.reduceToNat,reduceCtorEq,Int.reduceLT,Int.reduceLE,Int.reduceGT,Int.reduceGE,Int.reduceEq,Int.reduceNe,Int.reduceNeg,Int.reduceAdd,Int.reduceSub]
    refine draw [.qu 0 0, .qu 0 0, .qu 0 0, .qu 0 0, .qu 0 0, .qu 0 0, .qu 0 0, .qu 0 0, .qu 0 0] (by kernel_rfl) (by kernel_rfl) ?_
    simp only [go_sem,Nat.reduceAdd,Nat.reduceSub,Nat.reduceMul,Nat.reduceEqDiff,Nat.reduceLeDiff,Nat.reduceLT,↓reduceIte,Int.reduceToNat,reduceCtorEq,Int.reduceLT,Int.reduceLE,Int.reduceGT,Int.reduceGE,Int.reduceEq,Int.reduceNe,Int.reduceNeg,Int.reduceAdd,Int.reduceSub,hx,hy,List.getElem?_map,List.length_map,g1,g2,E92]
    have same : x = y → ∀ s' H', Wk 0 26 s' H' ((((Ch.nil.put 0 (.view false 3 (a.map rp))).put 1 (.view false 3 (b.map rp))).put 12 (iv a.length)).put 13 (iv (i + 1 : Nat))) [] → K s' H' := fun hxy s' H' hw =>
      hK (i + 1) s' H' ⟨by omega, by rw [List.take_add_one, List.take_add_one, hsm, hx, hy, hxy]⟩ (by omega) hw
    have diff : x ≠ y → decide (a = b) = false := fun hxy => decide_eq_false fun h => hxy (by rw [h, hy] at hx; exact (Option.some.inj hx).symm)
    have hiff : x = y ↔ x.at_ = y.at_ ∧ (x.old.toNat : Int) = y.old.toNat ∧ x.n = y.n := by
      obtain ⟨x1, x2, x3⟩ := x
      obtain ⟨y1, y2, y3⟩ := y
      simp only [Pt.mk.injEq]
      constructor
      · rintro ⟨h1, h2, h3⟩
        exact ⟨h1, by rw [h2], h3⟩
      · rintro ⟨h1, h2, h3⟩
        exact ⟨h1, UInt8.toNat_inj.1 (by omega), h3⟩
    rcases Decidable.em (x.at_ = y.at_) with q1 | q1
    rotate_left
    · simp only [go_sem,Nat.reduceAdd,Nat.reduceSub,Nat.reduceMul,Nat.reduceEqDiff,Nat.reduceLeDiff,Nat.reduceLT,↓reduceIte,Int.reduceToNat,reduceCtorEq,Int.reduceLT,Int.reduceLE,Int.reduceGT,Int.reduceGE,Int.reduceEq,Int.reduceNe,Int.reduceNeg,Int.reduceAdd,Int.reduceSub,eq_false q1,Bool.false_and]
      exact fin false _ (diff fun h => q1 (hiff.1 h).1).symm
    rcases Decidable.em ((x.old.toNat : Int) = y.old.toNat) with q2 | q2
    rotate_left
    · simp only [go_sem,Nat.reduceAdd,Nat.reduceSub,Nat.reduceMul,Nat.reduceEqDiff,Nat.reduceLeDiff,Nat.reduceLT,↓reduceIte,Int.reduceToNat,reduceCtorEq,Int.reduceLT,Int.reduceLE,Int.reduceGT,Int.reduceGE,Int.reduceEq,Int.reduceNe,Int.reduceNeg,Int.reduceAdd,Int.reduceSub,eq_true q1,eq_false q2,Bool.false_and,Bool.and_false]
      exact fin false _ (diff fun h => q2 (hiff.1 h).2.1).symm
    rcases Decidable.em (x.n = y.n) with q3 | q3
    rotate_left
    · simp only [go_sem,Nat.reduceAdd,Nat.reduceSub,Nat.reduceMul,Nat.reduceEqDiff,Nat.reduceLeDiff,Nat.reduceLT,↓reduceIte,Int.reduceToNat,reduceCtorEq,Int.reduceLT,Int.reduceLE,Int.reduceGT,Int.reduceGE,Int.reduceEq,Int.reduceNe,Int.reduceNeg,Int.reduceAdd,Int.reduceSub,eq_true q1,eq_true q2,eq_false q3,Bool.and_false]
      exact fin false _ (diff fun h => q3 (hiff.1 h).2.2).symm
    simp only [go_sem,Nat.reduceAdd,Nat.reduceSub,Nat.reduceMul,Nat.reduceEqDiff,Nat.reduceLeDiff,Nat.reduceLT,↓reduceIte,Int.reduceToNat,reduceCtorEq,Int.reduceLT,Int.reduceLE,Int.reduceGT,Int.reduceGE,Int.reduceEq,Int.reduceNe,Int.reduceNeg,Int.reduceAdd,Int.reduceSub,eq_true q1,eq_true q2,eq_true q3,e1]
    exact same (hiff.2 ⟨q1, q2, q3⟩) _ _ (Wk.slots' rfl (by simp [wkS, Ch.get]))
  · simp only [go_sem,Nat.reduceAdd,Nat.reduceSub,Nat.reduceMul,Nat.reduceEqDiff,Nat.reduceLeDiff,Nat.reduceLT,↓reduceIte,Int.reduceToNat,reduceCtorEq,Int.reduceLT,Int.reduceLE,Int.reduceGT,Int.reduceGE,Int.reduceEq,Int.reduceNe,Int.reduceNeg,Int.reduceAdd,Int.reduceSub]
    have : i = a.length := by omega
    subst this
    rw [List.take_length, List.take_of_length_le (by omega)] at hsm
    exact fin true _ (decide_eq_true hsm).symm
theorem msame_c (a b : Sp) (h1 : a.perm.length ≤ 9223372036854775807) (h2 : a.byt.length ≤ 9223372036854775807) : ACalls Tryz.prog 32 [a.av, b.av] [] (fun o H => o = .ret (.bool (sameS a b)) ∧ H = []) := by
  refine ACalls.up ?_
  refine ACalls.intro (cs := []) (n := 17) Tryz.func32 rfl rfl rfl (by kernel_rfl) rfl ?_
  generalize hpost : (fun (o : Out) (H : Heap) => o = Out.ret (.bool (sameS a b)) ∧ H = []) = post
  have fin : ∀ v H, v = sameS a b → Up 0 post (.ret (.bool v)) H := fun v H h => finv rfl (by rw [← hpost, ← h]; exact ⟨rfl, rfl⟩) H
  simp only [go_sem,Nat.reduceAdd,Nat.reduceSub,Nat.reduceMul,Nat.reduceEqDiff,Nat.reduceLeDiff,Nat.reduceLT,↓reduceIte,Int.reduceToNat,reduceCtorEq,Int.reduceLT,Int.reduceLE,Int.reduceGT,Int.reduceGE,Int.reduceEq,Int.reduceNe,Int.reduceNeg,Int.reduceAdd,Int.reduceSub,Sp.av]
  refine rK_use (enters_of Tryz.func68 rfl (by decide)) (ACalls.pure_use (eqI_c a.perm b.perm h1) rfl rfl) ?_
  rcases Decidable.em (a.perm = b.perm) with hp | hp
  · simp only [go_sem,Nat.reduceAdd,Nat.reduceSub,Nat.reduceMul,Nat.reduceEqDiff,Nat.reduceLeDiff,Nat.reduceLT,↓reduceIte,Int.reduceToNat,reduceCtorEq,Int.reduceLT,Int.reduceLE,Int.reduceGT,Int.reduceGE,Int.reduceEq,Int.reduceNe,Int.reduceNeg,Int.reduceAdd,Int.reduceSub,decide_eq_true hp]
    refine rK_use (enters_of Tryz.func69 rfl (by decide)) (ACalls.pure_use (eqB_c a.byt b.byt h2) rfl rfl) ?_
    simp only [go_sem,Nat.reduceAdd,Nat.reduceSub,Nat.reduceMul,Nat.reduceEqDiff,Nat.reduceLeDiff,Nat.reduceLT,↓reduceIte,Int.reduceToNat,reduceCtorEq,Int.reduceLT,Int.reduceLE,Int.reduceGT,Int.reduceGE,Int.reduceEq,Int.reduceNe,Int.reduceNeg,Int.reduceAdd,Int.reduceSub]
    exact fin _ _ (by rw [sameS, decide_eq_true hp, Bool.true_and])
  · simp only [go_sem,Nat.reduceAdd,Nat.reduceSub,Nat.reduceMul,Nat.reduceEqDiff,Nat.reduceLeDiff,Nat.reduceLT,↓reduceIte,Int.reduceToNat,reduceCtorEq,Int.reduceLT,Int.reduceLE,Int.reduceGT,Int.reduceGE,Int.reduceEq,Int.reduceNe,Int.reduceNeg,Int.reduceAdd,Int.reduceSub,decide_eq_false hp]
    exact fin _ _ (by rw [sameS, decide_eq_false hp, Bool.false_and])
def samePd (a b : Pd) : Bool := sameS a.s b.s && decide (a.l = b.l)
theorem samePd_self (a : Pd) : samePd a a = true := by simp [samePd, sameS_self]
theorem psame_c (a b : Pd) (h : a.room) : ACalls Tryz.prog 31 [a.av, b.av] [] (fun o H => o = .ret (.bool (samePd a b)) ∧ H = []) := by
  refine ACalls.up ?_
  refine ACalls.intro (cs := []) (n := 17) Tryz.func31 rfl rfl rfl (by kernel_rfl) rfl ?_
  have h1 := h.h1
  have h2 := h.h2
  have h3 := h.h3
  generalize hpost : (fun (o : Out) (H : Heap) => o = Out.ret (.bool (samePd a b)) ∧ H = []) = post
  have fin : ∀ v H, v = samePd a b → Up 0 post (.ret (.bool v)) H := fun v H h => finv rfl (by rw [← hpost, ← h]; exact ⟨rfl, rfl⟩) H
  simp only [go_sem,Nat.reduceAdd,Nat.reduceSub,Nat.reduceMul,Nat.reduceEqDiff,Nat.reduceLeDiff,Nat.reduceLT,↓reduceIte,Int.reduceToNat,reduceCtorEq,Int.reduceLT,Int.reduceLE,Int.reduceGT,Int.reduceGE,Int.reduceEq,Int.reduceNe,Int.reduceNeg,Int.reduceAdd,Int.reduceSub,Pd.av]
  refine rK_use (enters_of Tryz.func32 rfl (by decide)) (ACalls.pure_use (msame_c a.s b.s (by omega) (by omega)) rfl rfl) ?_
  cases hs : sameS a.s b.s
  · simp only [go_sem,Nat.reduceAdd,Nat.reduceSub,Nat.reduceMul,Nat.reduceEqDiff,Nat.reduceLeDiff,Nat.reduceLT,↓reduceIte,Int.reduceToNat,reduceCtorEq,Int.reduceLT,Int.reduceLE,Int.reduceGT,Int.reduceGE,Int.reduceEq,Int.reduceNe,Int.reduceNeg,Int.reduceAdd,Int.reduceSub]
    exact fin _ _ (by rw [samePd, hs, Bool.false_and])
  · simp only [go_sem,Nat.reduceAdd,Nat.reduceSub,Nat.reduceMul,Nat.reduceEqDiff,Nat.reduceLeDiff,Nat.reduceLT,↓reduceIte,Int.reduceToNat,reduceCtorEq,Int.reduceLT,Int.reduceLE,Int.reduceGT,Int.reduceGE,Int.reduceEq,Int.reduceNe,Int.reduceNeg,Int.reduceAdd,Int.reduceSub]
    refine rK_use (enters_of Tryz.func67 rfl (by decide)) (ACalls.pure_use (eqP_c a.l b.l (by omega)) rfl rfl) ?_
    simp only [go_sem,Nat.reduceAdd,Nat.reduceSub,Nat.reduceMul,Nat.reduceEqDiff,Nat.reduceLeDiff,Nat.reduceLT,↓reduceIte,Int.reduceToNat,reduceCtorEq,Int.reduceLT,Int.reduceLE,Int.reduceGT,Int.reduceGE,Int.reduceEq,Int.reduceNe,Int.reduceNeg,Int.reduceAdd,Int.reduceSub]
    exact fin _ _ (by rw [samePd, hs, Bool.true_and])
end Go.Proofs.YtfiflailjbmlpaaGreatDoor
set_option maxRecDepth 100000
set_option linter.unusedVariables false
set_option linter.unusedSimpArgs false
namespace Go.Proofs.YtfiflailjbmlpaaGreatDoor
open Go.AM
theorem immD_eq (i a b : Int) : iw .i64 (iw .i64 (i + a) - b) = immD i a b := by
  unfold immD
  refine iw_congr ?_
  rw [iwi64, iwi64]
  omega
theorem displaced_c (x : Ins) (a b : Int) : ACalls Tryz.prog 52 [x.av, iv a, iv b] [] (fun o H => o = .ret (.tuple [(dispE x a b).1.av, iv (dispE x a b).2]) ∧ H = []) := by
  refine ACalls.up ?_
  refine ACalls.intro (cs := []) (n := 49) Tryz.func52 rfl rfl rfl (by kernel_rfl) rfl ?_
  generalize hpost : (fun (o : Out) (H : Heap) => o = Out.ret (.tuple [(dispE x a b).1.av, iv (dispE x a b).2]) ∧ H = []) = post
  have fin : ∀ y n H, (y, n) = dispE x a b → Up 0 post (.ret (.tuple [.agg y.cells, iv n])) H := fun y n H h => finv rfl (by rw [← hpost, ← h]; exact ⟨rfl, rfl⟩) H
  obtain ⟨op, xa, xb, imm⟩ := x
  have e1 := immD_eq imm a b
  have e2 : iw .i64 (imm + iw .i64 (a - b)) = immD imm a b := rfl
  have hok := Decidable.em (Ins.ok ⟨op, xa, xb, immD imm a b⟩)
  have hck := icheck_c ⟨op, xa, xb, immD imm a b⟩
  have k0 : Ins.ok ⟨op, xa, xb, immD imm a b⟩ → Ins.chk ⟨op, xa, xb, immD imm a b⟩ = 0 := fun h => if_pos h
  have k1 : ¬ Ins.ok ⟨op, xa, xb, immD imm a b⟩ → Ins.chk ⟨op, xa, xb, immD imm a b⟩ = 20 := fun h => if_neg h
  have f2 := fin ⟨op, xa, xb, immD imm a b⟩ 2
  have f3 := fin ⟨op, xa, xb, imm⟩ 3
  by_cases h1 : op = 27 ∨ op = 28 ∨ op = 33 ∨ op = 76
  · have hf : ((⟨op, xa, xb, imm⟩ : Ins), (3 : Int)) = dispE ⟨op, xa, xb, imm⟩ a b := by rw [dispE, if_pos h1]
    rcases h1 with rfl | rfl | rfl | rfl
    all_goals
      simp only [go_sem,Nat.reduceAdd,Nat.reduceSub,Nat.reduceMul,Nat.reduceEqDiff,Nat.reduceLeDiff,Nat.reduceLT,↓reduceIte,Int.reduceToNat,reduceCtorEq,Int.reduceLT,Int.reduceLE,Int.reduceGT,Int.reduceGE,Int.reduceEq,Int.reduceNe,Int.reduceNeg,Int.reduceAdd,Int.reduceSub,Ins.av,Ins.cells]
      exact fin _ _ _ hf
  by_cases h2 : 21 ≤ op ∧ op ≤ 25
  · have h2' : op = 21 ∨ op = 22 ∨ op = 23 ∨ op = 24 ∨ op = 25 := by omega
    rcases h2' with rfl | rfl | rfl | rfl | rfl
    all_goals
      simp only [go_sem,Nat.reduceAdd,Nat.reduceSub,Nat.reduceMul,Nat.reduceEqDiff,Nat.reduceLeDiff,Nat.reduceLT,↓reduceIte,Int.reduceToNat,reduceCtorEq,Int.reduceLT,Int.reduceLE,Int.reduceGT,Int.reduceGE,Int.reduceEq,Int.reduceNe,Int.reduceNeg,Int.reduceAdd,Int.reduceSub,Ins.av,Ins.cells,e1]
      refine condD_dec (fun hz => ?_) (fun hz => ?_)
      · simp only [go_sem,Nat.reduceAdd,Nat.reduceSub,Nat.reduceMul,Nat.reduceEqDiff,Nat.reduceLeDiff,Nat.reduceLT,↓reduceIte,Int.reduceToNat,reduceCtorEq,Int.reduceLT,Int.reduceLE,Int.reduceGT,Int.reduceGE,Int.reduceEq,Int.reduceNe,Int.reduceNeg,Int.reduceAdd,Int.reduceSub]
        exact fin _ _ _ (by rw [dispE, if_neg h1, if_pos ⟨by simp, by simp, hz⟩])
      · simp only [go_sem,Nat.reduceAdd,Nat.reduceSub,Nat.reduceMul,Nat.reduceEqDiff,Nat.reduceLeDiff,Nat.reduceLT,↓reduceIte,Int.reduceToNat,reduceCtorEq,Int.reduceLT,Int.reduceLE,Int.reduceGT,Int.reduceGE,Int.reduceEq,Int.reduceNe,Int.reduceNeg,Int.reduceAdd,Int.reduceSub,e2]
        refine rK_use (enters_of Tryz.func51 rfl (by decide)) (ACalls.pure_use hck rfl rfl) ?_
        rcases hok with hk | hk
        · rw [k0 hk]
          simp only [go_sem,Nat.reduceAdd,Nat.reduceSub,Nat.reduceMul,Nat.reduceEqDiff,Nat.reduceLeDiff,Nat.reduceLT,↓reduceIte,Int.reduceToNat,reduceCtorEq,Int.reduceLT,Int.reduceLE,Int.reduceGT,Int.reduceGE,Int.reduceEq,Int.reduceNe,Int.reduceNeg,Int.reduceAdd,Int.reduceSub]
          exact f2 _ (by rw [dispE, if_neg h1, if_neg (by first | exact fun h => hz h.2.2 | exact fun h => absurd h.2.1 (by simp)), if_pos (by simp)]; exact (if_pos hk).symm)
        · rw [k1 hk]
          simp only [go_sem,Nat.reduceAdd,Nat.reduceSub,Nat.reduceMul,Nat.reduceEqDiff,Nat.reduceLeDiff,Nat.reduceLT,↓reduceIte,Int.reduceToNat,reduceCtorEq,Int.reduceLT,Int.reduceLE,Int.reduceGT,Int.reduceGE,Int.reduceEq,Int.reduceNe,Int.reduceNeg,Int.reduceAdd,Int.reduceSub]
          exact f3 _ (by rw [dispE, if_neg h1, if_neg (by first | exact fun h => hz h.2.2 | exact fun h => absurd h.2.1 (by simp)), if_pos (by simp)]; exact (if_neg hk).symm)
  by_cases h4 : op = 32
  · subst h4
    simp only [go_sem,Nat.reduceAdd,Nat.reduceSub,Nat.reduceMul,Nat.reduceEqDiff,Nat.reduceLeDiff,Nat.reduceLT,↓reduceIte,Int.reduceToNat,reduceCtorEq,Int.reduceLT,Int.reduceLE,Int.reduceGT,Int.reduceGE,Int.reduceEq,Int.reduceNe,Int.reduceNeg,Int.reduceAdd,Int.reduceSub,Ins.av,Ins.cells,e2]
    refine rK_use (enters_of Tryz.func51 rfl (by decide)) (ACalls.pure_use hck rfl rfl) ?_
    rcases hok with hk | hk
    · rw [k0 hk]
      simp only [go_sem,Nat.reduceAdd,Nat.reduceSub,Nat.reduceMul,Nat.reduceEqDiff,Nat.reduceLeDiff,Nat.reduceLT,↓reduceIte,Int.reduceToNat,reduceCtorEq,Int.reduceLT,Int.reduceLE,Int.reduceGT,Int.reduceGE,Int.reduceEq,Int.reduceNe,Int.reduceNeg,Int.reduceAdd,Int.reduceSub]
      exact f2 _ (by rw [dispE, if_neg h1, if_neg (by first | exact fun h => hz h.2.2 | exact fun h => absurd h.2.1 (by simp)), if_pos (by simp)]; exact (if_pos hk).symm)
    · rw [k1 hk]
      simp only [go_sem,Nat.reduceAdd,Nat.reduceSub,Nat.reduceMul,Nat.reduceEqDiff,Nat.reduceLeDiff,Nat.reduceLT,↓reduceIte,Int.reduceToNat,reduceCtorEq,Int.reduceLT,Int.reduceLE,Int.reduceGT,Int.reduceGE,Int.reduceEq,Int.reduceNe,Int.reduceNeg,Int.reduceAdd,Int.reduceSub]
      exact f3 _ (by rw [dispE, if_neg h1, if_neg (by first | exact fun h => hz h.2.2 | exact fun h => absurd h.2.1 (by simp)), if_pos (by simp)]; exact (if_neg hk).symm)
  · have q1 : ¬ op = 27 := by omega
    have q2 : ¬ op = 28 := by omega
    have q3 : ¬ op = 33 := by omega
    have q4 : ¬ op = 76 := by omega
    have q5 : ¬ op = 21 := by omega
    have q6 : ¬ op = 22 := by omega
    have q7 : ¬ op = 23 := by omega
    have q8 : ¬ op = 24 := by omega
    have q9 : ¬ op = 25 := by omega
    simp only [go_sem,Nat.reduceAdd,Nat.reduceSub,Nat.reduceMul,Nat.reduceEqDiff,Nat.reduceLeDiff,Nat.reduceLT,↓reduceIte,Int.reduceToNat,reduceCtorEq,Int.reduceLT,Int.reduceLE,Int.reduceGT,Int.reduceGE,Int.reduceEq,Int.reduceNe,Int.reduceNeg,Int.reduceAdd,Int.reduceSub,Ins.av,Ins.cells,q1,q2,q3,q4,q5,q6,q7,q8,q9,h4]
    exact fin ⟨op, xa, xb, imm⟩ 1 _ (by rw [dispE, if_neg h1, if_neg (fun h => h2 ⟨h.1, h.2.1⟩), if_neg (fun h => h.elim h2 h4)])
theorem Displace_c (x : Ins) (hx : x.ok) (a b : Int) : ACalls Tryz.prog 15 [x.av, iv a, iv b] [] (fun o H => o = .ret (.tuple [(dispE x a b).1.av, iv (dispE x a b).2, iv 0]) ∧ H = []) := by
  refine ACalls.up ?_
  refine ACalls.intro (cs := []) (n := 27) Tryz.func15 rfl rfl rfl (by kernel_rfl) rfl ?_
  generalize hpost : (fun (o : Out) (H : Heap) => o = Out.ret (.tuple [(dispE x a b).1.av, iv (dispE x a b).2, iv 0]) ∧ H = []) = post
  simp only [go_sem,Nat.reduceAdd,Nat.reduceSub,Nat.reduceMul,Nat.reduceEqDiff,Nat.reduceLeDiff,Nat.reduceLT,↓reduceIte,Int.reduceToNat,reduceCtorEq,Int.reduceLT,Int.reduceLE,Int.reduceGT,Int.reduceGE,Int.reduceEq,Int.reduceNe,Int.reduceNeg,Int.reduceAdd,Int.reduceSub,Ins.av,Ins.cells]
  refine rK_use (enters_of Tryz.func51 rfl (by decide)) (ACalls.pure_use (icheck_c x) rfl rfl) ?_
  rw [Ins.chk, if_pos hx]
  simp only [go_sem,Nat.reduceAdd,Nat.reduceSub,Nat.reduceMul,Nat.reduceEqDiff,Nat.reduceLeDiff,Nat.reduceLT,↓reduceIte,Int.reduceToNat,reduceCtorEq,Int.reduceLT,Int.reduceLE,Int.reduceGT,Int.reduceGE,Int.reduceEq,Int.reduceNe,Int.reduceNeg,Int.reduceAdd,Int.reduceSub]
  refine rK_use (enters_of Tryz.func52 rfl (by decide)) (ACalls.pure_use (displaced_c x a b) rfl rfl) ?_
  simp only [go_sem,Nat.reduceAdd,Nat.reduceSub,Nat.reduceMul,Nat.reduceEqDiff,Nat.reduceLeDiff,Nat.reduceLT,↓reduceIte,Int.reduceToNat,reduceCtorEq,Int.reduceLT,Int.reduceLE,Int.reduceGT,Int.reduceGE,Int.reduceEq,Int.reduceNe,Int.reduceNeg,Int.reduceAdd,Int.reduceSub,Ins.av,Ins.cells]
  refine finv rfl ?_ _
  rw [← hpost]
  exact ⟨rfl, rfl⟩
theorem fnd_cur (p : Pd) (a : Int) : fnd a p.l = (p.cur a).isSome := by
  unfold fnd Pd.cur
  cases p.l[lb a p.l]? with
  | none => rfl
  | some y =>
    simp only
    split
    · rename_i h; simp [h]
    · rename_i h; simp [h]
end Go.Proofs.YtfiflailjbmlpaaGreatDoor
set_option maxRecDepth 100000
set_option linter.unusedVariables false
set_option linter.unusedSimpArgs false
namespace Go.Proofs.YtfiflailjbmlpaaGreatDoor
open Go.AM
abbrev rz : List AV := [iv 0, .int .u8 0, iv 0]
theorem delete_c (l : List Pt) (i : Nat) (hi : i < l.length) (hl : l.length ≤ 1000) : ACalls Tryz.prog 59 [.sl 0 0 l.length none, iv i, iv ((i + 1 : Nat) : Int)] [.rows 3 (l.map rp)]
    (fun o H => o = .ret (.sl 0 0 (l.length - 1) none) ∧ H = [.rows 3 ((l.eraseIdx i).map rp ++ [rz])]) := by
  refine ACalls.caps fun c h1 h2 => ACalls.up ?_
  refine ACalls.intro (cs := []) (n := 33) Tryz.func59 rfl rfl rfl (by kernel_rfl) rfl ?_
  generalize hpost : (fun (o : Out) (H : Heap) => o = Out.ret (.sl 0 0 (l.length - 1) none) ∧ H = [.rows 3 ((l.eraseIdx i).map rp ++ [rz])]) = post
  have g1 : (0 : Int) ≤ i ∧ (i : Int) ≤ ((i + 1 : Nat) : Int) ∧ ((i + 1 : Nat) : Int) ≤ (l.length : Int) ∧ (l.length : Int) ≤ (c : Int) := ⟨by omega, by omega, by omega, by omega⟩
  have g2 : ¬ ((i : Int) = ((i + 1 : Nat) : Int)) := by omega
  simp only [go_sem,Nat.reduceAdd,Nat.reduceSub,Nat.reduceMul,Nat.reduceEqDiff,Nat.reduceLeDiff,Nat.reduceLT,↓reduceIte,Int.reduceToNat,reduceCtorEq,Int.reduceLT,Int.reduceLE,Int.reduceGT,Int.reduceGE,Int.reduceEq,Int.reduceNe,Int.reduceNeg,Int.reduceAdd,Int.reduceSub,g1,g2,Nat.sub_zero]
  refine draw [.qu 0 0, .qu 0 0, .qu 0 0, .qu 0 0, .qu 0 0, .qu 0 0, .mn 0, .qu 1 1] (by kernel_rfl) (by kernel_rfl) ?_
  have g3 : (i : Int) ≤ c ∧ (0 : Int) ≤ ((i + 1 : Nat) : Int) := ⟨by omega, by omega⟩
  have g4 : ¬ c = 0 := by omega
  have g5 : i ≤ l.length ∧ i + (l.length - (i + 1)) ≤ 68719476736 ∧ i + (l.length - (i + 1)) ≤ c := ⟨by omega, by omega, by omega⟩
  have e1 : ((l.map rp).drop (i + 1)).take (l.length - (i + 1)) = (l.drop (i + 1)).map rp := by
    rw [← List.map_drop, List.take_of_length_le (by simp)]
  have e2 : ((l.drop (i + 1)).map rp).length = l.length - (i + 1) := by simp
  simp only [go_sem,Nat.reduceAdd,Nat.reduceSub,Nat.reduceMul,Nat.reduceEqDiff,Nat.reduceLeDiff,Nat.reduceLT,↓reduceIte,Int.reduceToNat,reduceCtorEq,Int.reduceLT,Int.reduceLE,Int.reduceGT,Int.reduceGE,Int.reduceEq,Int.reduceNe,Int.reduceNeg,Int.reduceAdd,Int.reduceSub,g1,g3,g4,g5,Nat.sub_zero,e1,e2,List.length_map]
  have e3 : i + (l.length - (i + 1)) = l.length - 1 := by omega
  have e4 : (l.eraseIdx i).map rp = (l.map rp).take i ++ (l.drop (i + 1)).map rp := by
    rw [List.eraseIdx_eq_take_drop_succ, List.map_append, List.map_take]
  rw [e3]
  obtain ⟨R, hR⟩ : ∃ R, R = (l.map rp).take i ++ ((l.drop (i + 1)).map rp ++ (l.map rp).drop (l.length - 1)) := ⟨_, rfl⟩
  rw [← hR]
  have hRl : R.length = l.length := by rw [hR]; simp; omega
  have hR1 : R.take (l.length - 1) = (l.eraseIdx i).map rp := by
    rw [hR, ← List.append_assoc, ← e4, List.take_append_of_le_length (by simp [List.length_eraseIdx, hi]), List.take_of_length_le (by simp [List.length_eraseIdx, hi])]
  have g6 : (0 : Int) ≤ ((l.length - 1 : Nat) : Int) ∧ ((l.length - 1 : Nat) : Int) ≤ (l.length : Int) := ⟨by omega, by omega⟩
  have g7 : l.length - 1 + (l.length - (l.length - 1)) ≤ l.length ∧ l.length - (l.length - 1) = 1 := ⟨by omega, by omega⟩
  have g8 : l.length - 1 + 1 ≤ l.length := by omega
  have e5 : R.drop (l.length - 1 + 1) = [] := List.drop_of_length_le (by omega)
  simp only [go_sem,Nat.reduceAdd,Nat.reduceSub,Nat.reduceMul,Nat.reduceEqDiff,Nat.reduceLeDiff,Nat.reduceLT,↓reduceIte,Int.reduceToNat,reduceCtorEq,Int.reduceLT,Int.reduceLE,Int.reduceGT,Int.reduceGE,Int.reduceEq,Int.reduceNe,Int.reduceNeg,Int.reduceAdd,Int.reduceSub,g1,g3,g4,g5,g6,g7,g8,hRl,hR1,e5,Nat.sub_zero]
  refine .le (.ret (.cap ..)) (LeH.refl _) (.done ?_)
  rw [← hpost]
  exact ⟨rfl, rfl⟩
theorem ovl_ok : OvlOk Tryz.prog 124 := by
  refine ⟨Tryz.f124, 26, 4, 92, 3, Tryz.func124, by kernel_rfl, by kernel_rfl, by kernel_rfl, by kernel_rfl, Tryz.underlying26, fun w => ?_⟩
  exact run_size_ti T92 w
theorem insert_c (l : List Pt) (i : Nat) (hi : i ≤ l.length) (hl : l.length ≤ 1000) (x : Pt) : ACalls Tryz.prog 104 [.sl 0 0 l.length none, iv i, .sl 1 0 1 (some 1)] [.rows 3 (l.map rp), .rows 3 [rp x]]
    (fun o H => o = .ret (.sl 2 0 (l.length + 1) none) ∧ H = [.dead, .dead, .rows 3 ((l.take i ++ x :: l.drop i).map rp)]) := by
  refine ACalls.caps fun c h1 h2 => ACalls.up ?_
  refine ACalls.intro (cs := []) (n := 95) Tryz.func104 rfl rfl rfl (by kernel_rfl) rfl ?_
  generalize hpost : (fun (o : Out) (H : Heap) => o = Out.ret (.sl 2 0 (l.length + 1) none) ∧ H = [.dead, .dead, .rows 3 ((l.take i ++ x :: l.drop i).map rp)]) = post
  have g1 : (0 : Int) ≤ i ∧ (i : Int) ≤ (l.length : Int) := ⟨by omega, by omega⟩
  simp only [go_sem,Nat.reduceAdd,Nat.reduceSub,Nat.reduceMul,Nat.reduceEqDiff,Nat.reduceLeDiff,Nat.reduceLT,↓reduceIte,Int.reduceToNat,reduceCtorEq,Int.reduceLT,Int.reduceLE,Int.reduceGT,Int.reduceGE,Int.reduceEq,Int.reduceNe,Int.reduceNeg,Int.reduceAdd,Int.reduceSub,g1,Nat.sub_zero]
  refine condD_dec (fun hc => ?_) (fun hc => ?_)
  · have hil : i = l.length := by omega
    subst hil
    have g2 : l.length ≤ 68719476735 := by omega
    have e1 : (l.map rp).take l.length = l.map rp := List.take_of_length_le (by simp)
    have e2 : (l.map rp).drop (l.length + 1) = [] := List.drop_of_length_le (by simp)
    have e3 : (l.take l.length ++ x :: l.drop l.length).map rp = l.map rp ++ [rp x] := by simp
    rcases Decidable.em (c = 0) with h0 | h0
    · simp only [go_sem,Nat.reduceAdd,Nat.reduceSub,Nat.reduceMul,Nat.reduceEqDiff,Nat.reduceLeDiff,Nat.reduceLT,↓reduceIte,Int.reduceToNat,reduceCtorEq,Int.reduceLT,Int.reduceLE,Int.reduceGT,Int.reduceGE,Int.reduceEq,Int.reduceNe,Int.reduceNeg,Int.reduceAdd,Int.reduceSub,Nat.sub_zero,eq_true h0,g2,e1,List.length_map]
      refine .dead 1 (.done ?_)
      rw [← hpost, e3]
      exact ⟨rfl, rfl⟩
    · rcases Decidable.em (l.length + 1 ≤ c) with h3 | h3
      · simp only [go_sem,Nat.reduceAdd,Nat.reduceSub,Nat.reduceMul,Nat.reduceEqDiff,Nat.reduceLeDiff,Nat.reduceLT,↓reduceIte,Int.reduceToNat,reduceCtorEq,Int.reduceLT,Int.reduceLE,Int.reduceGT,Int.reduceGE,Int.reduceEq,Int.reduceNe,Int.reduceNeg,Int.reduceAdd,Int.reduceSub,Nat.sub_zero,eq_false h0,eq_true h3,g2,e1,e2,List.length_map]
        refine .le (.ret (.cap ..)) (LeH.refl _) (.mv (o' := .ret (.sl 2 0 (l.length + 1) none)) 0 (Nat.le_refl _) rfl rfl (.dead 1 (.done ?_)))
        rw [← hpost, e3]
        exact ⟨rfl, rfl⟩
      · simp only [go_sem,Nat.reduceAdd,Nat.reduceSub,Nat.reduceMul,Nat.reduceEqDiff,Nat.reduceLeDiff,Nat.reduceLT,↓reduceIte,Int.reduceToNat,reduceCtorEq,Int.reduceLT,Int.reduceLE,Int.reduceGT,Int.reduceGE,Int.reduceEq,Int.reduceNe,Int.reduceNeg,Int.reduceAdd,Int.reduceSub,Nat.sub_zero,eq_false h0,eq_false h3,g2,e1,e2,List.length_map]
        refine .dead 0 (.dead 1 (.done ?_))
        rw [← hpost, e3]
        exact ⟨rfl, rfl⟩
  · have e1 : iw .i64 ((l.length : Int) + 1) = ((l.length + 1 : Nat) : Int) := by rw [iw64] <;> omega
    have e2 : iw .i64 ((i : Int) + 1) = ((i + 1 : Nat) : Int) := by rw [iw64] <;> omega
    have e3 : iw .i64 (((l.length + 1 : Nat) : Int) - i) = ((l.length + 1 - i : Nat) : Int) := by rw [iw64] <;> omega
    have h0 : ¬ c = 0 := by omega
    have hil : i < l.length := by omega
    rcases Decidable.em (((c : Nat) : Int) < ((l.length + 1 : Nat) : Int)) with h3 | h3
    · have g3 : (0 : Int) ≤ (i : Int) ∧ (i : Int) ≤ (c : Int) := ⟨by omega, by omega⟩
      have g4 : i ≤ l.length ∧ (0 : Int) ≤ ((l.length + 1 - i : Nat) : Int) ∧ c < i + (l.length + 1 - i) ∧ i + (l.length + 1 - i) ≤ 68719476736 := ⟨by omega, by omega, by omega, by omega⟩
      simp only [go_sem,Nat.reduceAdd,Nat.reduceSub,Nat.reduceMul,Nat.reduceEqDiff,Nat.reduceLeDiff,Nat.reduceLT,↓reduceIte,Int.reduceToNat,reduceCtorEq,Int.reduceLT,Int.reduceLE,Int.reduceGT,Int.reduceGE,Int.reduceEq,Int.reduceNe,Int.reduceNeg,Int.reduceAdd,Int.reduceSub,Nat.sub_zero,e1,e2,e3,eq_true h3,eq_false h0,g3,g4,List.length_map]
      have e4 : i + (l.length + 1 - i) = l.length + 1 := by omega
      rw [e4]
      obtain ⟨A, hA⟩ : ∃ A, A = (l.map rp).take i ++ List.replicate (l.length + 1 - i) rz := ⟨_, rfl⟩
      rw [← hA]
      have hA1 : A.take i = (l.map rp).take i := by rw [hA, List.take_append_of_le_length (by simp; omega), List.take_take, Nat.min_self]
      have hA2 : A.length = l.length + 1 := by rw [hA]; simp; omega
      have g5 : (i : Int) ≤ ((l.length + 1 : Nat) : Int) ∧ 1 ≤ l.length + 1 - i ∧ i ≤ l.length + 1 := ⟨by omega, by omega, by omega⟩
      simp only [go_sem,Nat.reduceAdd,Nat.reduceSub,Nat.reduceMul,Nat.reduceEqDiff,Nat.reduceLeDiff,Nat.reduceLT,↓reduceIte,Int.reduceToNat,reduceCtorEq,Int.reduceLT,Int.reduceLE,Int.reduceGT,Int.reduceGE,Int.reduceEq,Int.reduceNe,Int.reduceNeg,Int.reduceAdd,Int.reduceSub,Nat.sub_zero,g3,g5,hA2,hA1]
      obtain ⟨B, hB⟩ : ∃ B, B = (l.map rp).take i ++ rp x :: A.drop (i + 1) := ⟨_, rfl⟩
      rw [← hB]
      have hB1 : B.take (i + 1) = (l.map rp).take i ++ [rp x] := by
        have hl : ((l.map rp).take i).length = i := by simp; omega
        rw [hB, List.take_append, hl, List.take_of_length_le (by rw [hl]; omega), show i + 1 - i = 1 by omega]
        rfl
      have hB2 : B.length = l.length + 1 := by rw [hB]; simp [hA2]; omega
      refine draw [.qu 0 0, .qu 0 0, .qu 0 0, .qu 0 0, .qu 0 0, .qu 0 0, .qu 0 0, .qu 0 0, .mn 0] (by kernel_rfl) (by kernel_rfl) ?_
      have g6 : (0 : Int) ≤ ((i + 1 : Nat) : Int) ∧ ((i + 1 : Nat) : Int) ≤ ((l.length + 1 : Nat) : Int) ∧ i + 1 ≤ l.length + 1 ∧ l.length - i ≤ l.length + 1 - (i + 1) ∧ (i : Int) ≤ (l.length : Int) := ⟨by omega, by omega, by omega, by omega, by omega⟩
      have e5 : ((l.map rp).drop i).take (l.length - i) = (l.drop i).map rp := by rw [← List.map_drop, List.take_of_length_le (by simp)]
      have e6 : ((l.drop i).map rp).length = l.length - i := by simp
      have e7 : B.drop (i + 1 + (l.length - i)) = [] := List.drop_of_length_le (by omega)
      simp only [go_sem,Nat.reduceAdd,Nat.reduceSub,Nat.reduceMul,Nat.reduceEqDiff,Nat.reduceLeDiff,Nat.reduceLT,↓reduceIte,Int.reduceToNat,reduceCtorEq,Int.reduceLT,Int.reduceLE,Int.reduceGT,Int.reduceGE,Int.reduceEq,Int.reduceNe,Int.reduceNeg,Int.reduceAdd,Int.reduceSub,Nat.sub_zero,e2,g3,g6,hB1,hB2,e5,e6,e7]
      refine .dead 0 (.dead 1 (.done ?_))
      rw [← hpost]
      refine ⟨rfl, ?_⟩
      simp
    · have g3 : (0 : Int) ≤ (i : Int) ∧ (i : Int) ≤ (c : Int) := ⟨by omega, by omega⟩
      have g4 : (0 : Int) ≤ ((l.length + 1 : Nat) : Int) ∧ ((l.length + 1 : Nat) : Int) ≤ (c : Int) ∧ (0 : Int) ≤ ((i + 1 : Nat) : Int) ∧ ((i + 1 : Nat) : Int) ≤ ((l.length + 1 : Nat) : Int) ∧ (i : Int) ≤ ((l.length + 1 : Nat) : Int) := ⟨by omega, by omega, by omega, by omega, by omega⟩
      simp only [go_sem,Nat.reduceAdd,Nat.reduceSub,Nat.reduceMul,Nat.reduceEqDiff,Nat.reduceLeDiff,Nat.reduceLT,↓reduceIte,Int.reduceToNat,reduceCtorEq,Int.reduceLT,Int.reduceLE,Int.reduceGT,Int.reduceGE,Int.reduceEq,Int.reduceNe,Int.reduceNeg,Int.reduceAdd,Int.reduceSub,Nat.sub_zero,e1,e2,e3,eq_false h3,eq_false h0,g3,g4,List.length_map,eq_true ovl_ok]
      refine draw [.qu 0 0, .qu 0 0, .qu 0 0, .qu 0 0, .qu 0 0, .qu 0 0, .qu 0 0, .qu 0 0, .mn 0] (by kernel_rfl) (by kernel_rfl) ?_
      have g5 : ¬ (l.length + 1 - i ≤ l.length + 1 - (i + 1)) := by omega
      have g6 : i + 1 ≤ l.length := by omega
      have e5 : ((l.map rp).drop i).take (l.length + 1 - (i + 1)) = (l.drop i).map rp := by rw [← List.map_drop, List.take_of_length_le (by simp)]
      have e6 : ((l.drop i).map rp).length = l.length + 1 - (i + 1) := by simp
      have e7 : (l.map rp).drop (i + 1 + (l.length + 1 - (i + 1))) = [] := List.drop_of_length_le (by simp; omega)
      simp only [go_sem,Nat.reduceAdd,Nat.reduceSub,Nat.reduceMul,Nat.reduceEqDiff,Nat.reduceLeDiff,Nat.reduceLT,↓reduceIte,Int.reduceToNat,reduceCtorEq,Int.reduceLT,Int.reduceLE,Int.reduceGT,Int.reduceGE,Int.reduceEq,Int.reduceNe,Int.reduceNeg,Int.reduceAdd,Int.reduceSub,Nat.sub_zero,e1,e2,g3,g4,g5,g6,e5,e6,e7,List.length_map]
      obtain ⟨R, hR⟩ : ∃ R, R = (l.map rp).take (i + 1) ++ (l.drop i).map rp := ⟨_, rfl⟩
      rw [← hR]
      have hR1 : R.take i = (l.map rp).take i := by rw [hR, List.take_append_of_le_length (by simp; omega), List.take_take, show min i (i + 1) = i by omega]
      have hR2 : R.length = l.length + 1 := by rw [hR]; simp; omega
      have hR3 : R.drop (i + 1) = (l.drop i).map rp := by
        have hl : ((l.map rp).take (i + 1)).length = i + 1 := by simp; omega
        rw [hR, List.drop_append, hl, List.drop_of_length_le (by rw [hl]; omega), Nat.sub_self]
        rfl
      have g7 : 1 ≤ l.length + 1 - i ∧ i ≤ l.length + 1 := ⟨by omega, by omega⟩
      simp only [go_sem,Nat.reduceAdd,Nat.reduceSub,Nat.reduceMul,Nat.reduceEqDiff,Nat.reduceLeDiff,Nat.reduceLT,↓reduceIte,Int.reduceToNat,reduceCtorEq,Int.reduceLT,Int.reduceLE,Int.reduceGT,Int.reduceGE,Int.reduceEq,Int.reduceNe,Int.reduceNeg,Int.reduceAdd,Int.reduceSub,Nat.sub_zero,e1,e2,g3,g4,g7,hR1,hR2,hR3]
      refine .le (.ret (.cap ..)) (LeH.refl _) (.mv (o' := .ret (.sl 2 0 (l.length + 1) none)) 0 (Nat.le_refl _) rfl rfl (.dead 1 (.done ?_)))
      rw [← hpost]
      refine ⟨rfl, ?_⟩
      simp
end Go.Proofs.YtfiflailjbmlpaaGreatDoor
set_option maxRecDepth 100000
set_option linter.unusedVariables false
set_option linter.unusedSimpArgs false
namespace Go.Proofs.YtfiflailjbmlpaaGreatDoor
open Go.AM
abbrev rfd (e : Int) : AV := .iface 132 (.agg [iv e])
theorem pmust_ok : ACalls Tryz.prog 57 [iv 0] [] (fun o H => o = .ret (.tuple []) ∧ H = []) := by
  refine ACalls.up ?_
  refine ACalls.intro (cs := []) (n := 7) Tryz.func57 rfl rfl rfl (by kernel_rfl) rfl ?_
  simp only [go_sem,Nat.reduceAdd,Nat.reduceSub,Nat.reduceMul,Nat.reduceEqDiff,Nat.reduceLeDiff,Nat.reduceLT,↓reduceIte,Int.reduceToNat,reduceCtorEq,Int.reduceLT,Int.reduceLE,Int.reduceGT,Int.reduceGE,Int.reduceEq,Int.reduceNe,Int.reduceNeg,Int.reduceAdd,Int.reduceSub]
  exact .done ⟨rfl, rfl⟩
theorem pmust_no (e : Int) (h : e ≠ 0) : ACalls Tryz.prog 57 [iv e] [] (fun o H => o = .pan (rfd e) ∧ H = []) := by
  refine ACalls.up ?_
  refine ACalls.intro (cs := []) (n := 7) Tryz.func57 rfl rfl rfl (by kernel_rfl) rfl ?_
  simp only [go_sem,Nat.reduceAdd,Nat.reduceSub,Nat.reduceMul,Nat.reduceEqDiff,Nat.reduceLeDiff,Nat.reduceLT,↓reduceIte,Int.reduceToNat,reduceCtorEq,Int.reduceLT,Int.reduceLE,Int.reduceGT,Int.reduceGE,Int.reduceEq,Int.reduceNe,Int.reduceNeg,Int.reduceAdd,Int.reduceSub,eq_false h]
  exact .done ⟨rfl, rfl⟩
theorem hK_app {P : Program} {ops : Array Oper} {rest : List Oper} {Q : XQ} {s : Ch} {H : Heap} : hK P ops rest Q s H = cops P ops rest Q s H := id rfl
theorem caught_res : Tryz.f40.results.toList = [ResultVar.cell 2 41] := rfl
theorem app_at {H : Heap} {n : Nat} (h : H.length = n) (x : Blk) : (H ++ [x])[n]? = some x := by subst h; simp
theorem app_set {H : Heap} {n : Nat} (h : H.length = n) (x y : Blk) : (H ++ [x]).set n y = H ++ [y] := by subst h; simp
theorem app2_a {H : Heap} {n : Nat} (h : H.length = n) (x y : Blk) : (H ++ [x, y])[n]? = some x := by subst h; simp
theorem app2_b {H : Heap} {n : Nat} (h : H.length = n) (x y : Blk) : (H ++ [x, y])[n + 1]? = some y := by subst h; simp
theorem app2_sa {H : Heap} {n : Nat} (h : H.length = n) (x y z : Blk) : (H ++ [x, y]).set n z = H ++ [z, y] := by subst h; simp
theorem app2_sb {H : Heap} {n : Nat} (h : H.length = n) (x y z : Blk) : (H ++ [x, y]).set (n + 1) z = H ++ [x, z] := by subst h; simp
section
variable {g : FuncId} {cap : List AV} {H H' : Heap}
theorem caught_ret (hE : Enters Tryz.prog g) (hc : ACalls Tryz.prog g cap H (fun o H2 => o = .ret (.tuple []) ∧ H2 = H')) (ha : ltL H.length cap = true) (h1 : ∀ b ∈ H, b.lt H.length) (h2 : ∀ b ∈ H', b.lt H.length) (hl : H'.length = H.length) :
    ACalls Tryz.prog 40 [.func (.func g) [] cap] H (fun o H2 => o = .ret (iv 0) ∧ H2 = H') := by
  refine ACalls.up ?_
  refine ACalls.introD (n := 6) Tryz.func40 rfl (by kernel_rfl) rfl ?_
  refine DWp.seq (by kernel_rfl) ?_
  generalize hpost : (fun (o : Out) (H2 : Heap) => o = Out.ret (iv 0) ∧ H2 = H') = post
  simp only [go_sem,Nat.reduceAdd,Nat.reduceSub,Nat.reduceMul,Nat.reduceEqDiff,Nat.reduceLeDiff,Nat.reduceLT,↓reduceIte,Int.reduceToNat,reduceCtorEq,Int.reduceLT,Int.reduceLE,Int.reduceGT,Int.reduceGE,Int.reduceEq,Int.reduceNe,Int.reduceNeg,Int.reduceAdd,Int.reduceSub,hK_app]
  refine DWp.defer (by kernel_rfl) rfl (by kernel_rfl) (by kernel_rfl) ?_
  simp only [go_sem,Nat.reduceAdd,Nat.reduceSub,Nat.reduceMul,Nat.reduceEqDiff,Nat.reduceLeDiff,Nat.reduceLT,↓reduceIte,Int.reduceToNat,reduceCtorEq,Int.reduceLT,Int.reduceLE,Int.reduceGT,Int.reduceGE,Int.reduceEq,Int.reduceNe,Int.reduceNeg,Int.reduceAdd,Int.reduceSub,hK_app,List.length_append]
  refine ⟨(enters_of Tryz.func79 rfl (by decide)), fun d => ?_⟩
  refine rK_use hE (hc.frame (R := [.rows 1 [[iv 0]]]) ha rfl h1 h2 hl) ?_
  simp only [go_sem,Nat.reduceAdd,Nat.reduceSub,Nat.reduceMul,Nat.reduceEqDiff,Nat.reduceLeDiff,Nat.reduceLT,↓reduceIte,Int.reduceToNat,reduceCtorEq,Int.reduceLT,Int.reduceLE,Int.reduceGT,Int.reduceGE,Int.reduceEq,Int.reduceNe,Int.reduceNeg,Int.reduceAdd,Int.reduceSub,hK_app,app_at hl,app_set hl]
  refine ADef.intro (n := 12) Tryz.func79 rfl rfl (by kernel_rfl) rfl (by kernel_rfl) ?_
  simp only [go_sem,Nat.reduceAdd,Nat.reduceSub,Nat.reduceMul,Nat.reduceEqDiff,Nat.reduceLeDiff,Nat.reduceLT,↓reduceIte,Int.reduceToNat,reduceCtorEq,Int.reduceLT,Int.reduceLE,Int.reduceGT,Int.reduceGE,Int.reduceEq,Int.reduceNe,Int.reduceNeg,Int.reduceAdd,Int.reduceSub,hK_app,app_at hl,app_set hl,caught_res]
  refine .gc H.length (Nat.le_refl _) (by simp; omega) rfl ?_ (.done ?_)
  · rw [← hl, List.take_left]
    rw [hl]; exact h2
  · rw [← hpost, ← hl, List.take_left]
    exact ⟨rfl, rfl⟩
theorem caught_pan (e : Int) (hE : Enters Tryz.prog g) (hc : ACalls Tryz.prog g cap H (fun o H2 => o = .pan (rfd e) ∧ H2 = H')) (ha : ltL H.length cap = true) (h1 : ∀ b ∈ H, b.lt H.length) (h2 : ∀ b ∈ H', b.lt H.length) (hl : H'.length = H.length) :
    ACalls Tryz.prog 40 [.func (.func g) [] cap] H (fun o H2 => o = .ret (iv e) ∧ H2 = H') := by
  refine ACalls.up ?_
  refine ACalls.introD (n := 6) Tryz.func40 rfl (by kernel_rfl) rfl ?_
  refine DWp.seq (by kernel_rfl) ?_
  generalize hpost : (fun (o : Out) (H2 : Heap) => o = Out.ret (iv e) ∧ H2 = H') = post
  simp only [go_sem,Nat.reduceAdd,Nat.reduceSub,Nat.reduceMul,Nat.reduceEqDiff,Nat.reduceLeDiff,Nat.reduceLT,↓reduceIte,Int.reduceToNat,reduceCtorEq,Int.reduceLT,Int.reduceLE,Int.reduceGT,Int.reduceGE,Int.reduceEq,Int.reduceNe,Int.reduceNeg,Int.reduceAdd,Int.reduceSub,hK_app]
  refine DWp.defer (by kernel_rfl) rfl (by kernel_rfl) (by kernel_rfl) ?_
  simp only [go_sem,Nat.reduceAdd,Nat.reduceSub,Nat.reduceMul,Nat.reduceEqDiff,Nat.reduceLeDiff,Nat.reduceLT,↓reduceIte,Int.reduceToNat,reduceCtorEq,Int.reduceLT,Int.reduceLE,Int.reduceGT,Int.reduceGE,Int.reduceEq,Int.reduceNe,Int.reduceNeg,Int.reduceAdd,Int.reduceSub,hK_app,List.length_append]
  refine ⟨(enters_of Tryz.func79 rfl (by decide)), fun d => ?_⟩
  refine rK_pans hE (hc.framep (R := [.rows 1 [[iv 0]]]) ha rfl h1 h2 hl) ?_
  simp only [go_sem,Nat.reduceAdd,Nat.reduceSub,Nat.reduceMul,Nat.reduceEqDiff,Nat.reduceLeDiff,Nat.reduceLT,↓reduceIte,Int.reduceToNat,reduceCtorEq,Int.reduceLT,Int.reduceLE,Int.reduceGT,Int.reduceGE,Int.reduceEq,Int.reduceNe,Int.reduceNeg,Int.reduceAdd,Int.reduceSub,hK_app,app_at hl,app_set hl]
  refine ADef.intro (n := 12) Tryz.func79 rfl rfl (by kernel_rfl) rfl (by kernel_rfl) ?_
  simp only [go_sem,Nat.reduceAdd,Nat.reduceSub,Nat.reduceMul,Nat.reduceEqDiff,Nat.reduceLeDiff,Nat.reduceLT,↓reduceIte,Int.reduceToNat,reduceCtorEq,Int.reduceLT,Int.reduceLE,Int.reduceGT,Int.reduceGE,Int.reduceEq,Int.reduceNe,Int.reduceNeg,Int.reduceAdd,Int.reduceSub,hK_app,app_at hl,app_set hl,app2_a hl,app2_b hl,app2_sa hl,app2_sb hl,List.length_append,hl,caught_res]
  refine .gc H.length (Nat.le_refl _) (by simp; omega) rfl ?_ (.done ?_)
  · rw [← hl, List.take_left]
    rw [hl]; exact h2
  · rw [← hpost, ← hl, List.take_left]
    exact ⟨rfl, rfl⟩
end
end Go.Proofs.YtfiflailjbmlpaaGreatDoor
set_option maxRecDepth 100000
set_option linter.unusedVariables false
set_option linter.unusedSimpArgs false
namespace Go.Proofs.YtfiflailjbmlpaaGreatDoor
open Go.AM
theorem find_l {l : List Pt} (hs : Srt l) (hl : l.length ≤ 1000000) (a : Int) (r : Nat) {H : Heap} (hH : H[r]? = some (.rows 3 (l.map rp))) :
    ACalls Tryz.prog 48 [.sl r 0 l.length none, iv a] H (fun o H2 => o = .ret (.tuple [iv (lb a l), .bool (fnd a l)]) ∧ H2 = H) := by
  have e : fzL r 3 (l.map rp) [.sl r 0 l.length none, iv a] = [.view false 3 (l.map rp), iv a] := by
    simp only [fzL, AV.fz, List.drop_zero, if_true]
    rw [List.take_of_length_le (by simp)]
  refine ACalls.lend r rfl hH (rp_pure l) (by simp [fzOkL, AV.fzOk]) (by rw [e]; rfl) ?_
  rw [e]
  exact find_c l hs hl a
theorem bren_rp (π : Nat → Nat) (l : List Pt) : Blk.ren π (.rows 3 (l.map rp)) = .rows 3 (l.map rp) := by
  rw [Blk.ren]
  congr 1
  rw [List.map_map]
  exact List.map_congr_left fun x _ => rfl
theorem cur_lt {p : Pd} {a : Int} {y : Pt} (h : p.cur a = some y) : lb a p.l < p.l.length := (List.getElem?_eq_some_iff.1 (Pd.cur_at h).1).1
theorem set_rp (l : List Pt) (i : Nat) (x : Pt) : (l.map rp).set i (rp x) = (l.set i x).map rp := by rw [List.map_set]
theorem up_pd {post : CQ} {H : Heap} {q : Pd} (r k : Nat) (nb nl : Nat) (xs ys : List (List AV)) (hrk : r ≠ k) (hr : H[r]? = some (.rows 1 xs)) (hk : H[k]? = some (.rows 3 ys)) (hx : xs.take nb = q.s.byt.map rb) (hy : ys.take nl = q.l.map rp) (hxl : nb ≤ xs.length) (hyl : nl ≤ ys.length)
    (hp : ∀ row ∈ xs, ltL 0 row = true) (hp2 : ∀ row ∈ ys, ltL 0 row = true) (h : post (.ret q.av) []) : Up 0 post (.ret (.agg [.view false 1 (q.s.perm.map r1), .sl r 0 nb none, .sl k 0 nl none])) H := by
  have hkr : ¬ k = r := fun h => hrk h.symm
  refine up_two r 1 xs k 3 ys hrk hr hk hp hp2 ?_ ?_ ?_ ?_
  · simp [Out.fzOk, AV.fzOk, fzOkL, hxl, hkr]
  · simp [Out.fzOk, Out.fz, AV.fz, fzL, AV.fzOk, fzOkL, hkr, hyl]
  · simp [Out.fz, AV.fz, fzL, Out.lt, AV.lt, ltL, hkr]
  · simp only [Out.fz, AV.fz, fzL, if_true, if_neg hkr, List.drop_zero, hx, hy]
    exact h
theorem install_ok (p : Pd) (h : p.ok) (a : Int) (ha : I64 a) (h0 : (p.inst a).2 = 0) : ACalls Tryz.prog 55 [p.av, iv a] [] (fun o H => o = .ret (p.inst a).1.av ∧ H = []) := by
  refine ACalls.up ?_
  refine ACalls.intro (cs := []) (n := 76) Tryz.func55 rfl rfl rfl (by kernel_rfl) rfl ?_
  generalize hpost : (fun (o : Out) (H : Heap) => o = Out.ret (p.inst a).1.av ∧ H = []) = post
  have hl := h.len
  have hbl := byt_len h.sok
  simp only [go_sem,Nat.reduceAdd,Nat.reduceSub,Nat.reduceMul,Nat.reduceEqDiff,Nat.reduceLeDiff,Nat.reduceLT,↓reduceIte,Int.reduceToNat,reduceCtorEq,Int.reduceLT,Int.reduceLE,Int.reduceGT,Int.reduceGE,Int.reduceEq,Int.reduceNe,Int.reduceNeg,Int.reduceAdd,Int.reduceSub,Pd.av]
  refine rK_use (enters_of Tryz.func25 rfl (by decide)) (ACalls.pure_use (pcheck_c p) rfl rfl) ?_
  rw [Pd.chk_ok h]
  simp only [go_sem,Nat.reduceAdd,Nat.reduceSub,Nat.reduceMul,Nat.reduceEqDiff,Nat.reduceLeDiff,Nat.reduceLT,↓reduceIte,Int.reduceToNat,reduceCtorEq,Int.reduceLT,Int.reduceLE,Int.reduceGT,Int.reduceGE,Int.reduceEq,Int.reduceNe,Int.reduceNeg,Int.reduceAdd,Int.reduceSub]
  refine rK_use (enters_of Tryz.func57 rfl (by decide)) (ACalls.pure_use (pmust_ok) rfl rfl) ?_
  simp only [go_sem,Nat.reduceAdd,Nat.reduceSub,Nat.reduceMul,Nat.reduceEqDiff,Nat.reduceLeDiff,Nat.reduceLT,↓reduceIte,Int.reduceToNat,reduceCtorEq,Int.reduceLT,Int.reduceLE,Int.reduceGT,Int.reduceGE,Int.reduceEq,Int.reduceNe,Int.reduceNeg,Int.reduceAdd,Int.reduceSub]
  refine rK_use (enters_of Tryz.func58 rfl (by decide)) (pcopied_u p h.fit _) ?_
  simp only [go_sem,Nat.reduceAdd,Nat.reduceSub,Nat.reduceMul,Nat.reduceEqDiff,Nat.reduceLeDiff,Nat.reduceLT,↓reduceIte,Int.reduceToNat,reduceCtorEq,Int.reduceLT,Int.reduceLE,Int.reduceGT,Int.reduceGE,Int.reduceEq,Int.reduceNe,Int.reduceNeg,Int.reduceAdd,Int.reduceSub]
  refine rK_use (enters_of Tryz.func48 rfl (by decide)) (find_l h.sor (by omega) a 3 rfl) ?_
  rw [fnd_cur]
  unfold Pd.inst at h0 hpost
  cases hc : p.cur a with
  | some y =>
    rw [hc] at h0 hpost
    simp only at h0 hpost
    have hlb := cur_lt hc
    obtain ⟨hy, hya⟩ := Pd.cur_at hc
    have hf := h.fits y (List.mem_of_getElem? hy)
    have hn1 := hf.n1
    have hn2 := hf.n2
    by_cases hn : y.n = 1000
    · rw [if_pos hn] at h0; cases h0
    rw [if_neg hn] at hpost
    have g1 : (0 : Int) ≤ (lb a p.l : Int) ∧ (lb a p.l : Int) < (p.l.length : Int) := ⟨by omega, by omega⟩
    have e1 : iw .i64 (y.n + 1) = y.n + 1 := by rw [iw64] <;> omega
    simp only [go_sem,Nat.reduceAdd,Nat.reduceSub,Nat.reduceMul,Nat.reduceEqDiff,Nat.reduceLeDiff,Nat.reduceLT,↓reduceIte,Int.reduceToNat,reduceCtorEq,Int.reduceLT,Int.reduceLE,Int.reduceGT,Int.reduceGE,Int.reduceEq,Int.reduceNe,Int.reduceNeg,Int.reduceAdd,Int.reduceSub,Option.isSome_some,g1,hy,List.length_map,List.getElem?_map,eq_false hn,e1,hlb]
    refine up_pd (q := ⟨p.s, p.l.set (lb a p.l) ⟨y.at_, y.old, y.n + 1⟩⟩) 2 3 p.s.byt.length p.l.length _ _ (by decide) rfl rfl (List.take_of_length_le (by simp)) ?_ (by simp) (by simp) (rb_lt0 _) ?_ ?_
    · rw [set_rp _ _ ⟨y.at_, y.old, y.n + 1⟩, List.take_of_length_le (by simp)]
    · rw [set_rp _ _ ⟨y.at_, y.old, y.n + 1⟩]
      exact rp_lt0 _
    · rw [← hpost]
      exact ⟨rfl, rfl⟩
  | none =>
    rw [hc] at h0 hpost
    simp only at h0 hpost
    simp only [go_sem,Nat.reduceAdd,Nat.reduceSub,Nat.reduceMul,Nat.reduceEqDiff,Nat.reduceLeDiff,Nat.reduceLT,↓reduceIte,Int.reduceToNat,reduceCtorEq,Int.reduceLT,Int.reduceLE,Int.reduceGT,Int.reduceGE,Int.reduceEq,Int.reduceNe,Int.reduceNeg,Int.reduceAdd,Int.reduceSub,Option.isSome_none]
    refine rK_use (enters_of Tryz.func49 rfl (by decide)) (ACalls.pure_use (standing_c p.s h.sok a) rfl (by simp [sitC, Ins.cells, AV.lt, ltL])) ?_
    by_cases hst : (stand p.s a).e = 0
    rotate_left
    · rw [if_neg hst] at h0; cases h0
    rw [if_pos hst] at h0 hpost
    by_cases hn : p.l.length = 64
    · rw [if_pos hn] at h0; cases h0
    rw [if_neg hn] at hpost
    have hn' : ¬ (p.l.length : Int) = 64 := by omega
    obtain ⟨b0, b1, _, d, _, _, hd⟩ := stand_at ha (by rw [hst]; decide)
    rw [hd, Option.getD_some] at hpost
    have g2 : (0 : Int) ≤ a ∧ a < (p.s.byt.length : Int) := ⟨b0, b1⟩
    have g3 : a.toNat < p.s.byt.length := by omega
    simp only [go_sem,Nat.reduceAdd,Nat.reduceSub,Nat.reduceMul,Nat.reduceEqDiff,Nat.reduceLeDiff,Nat.reduceLT,↓reduceIte,Int.reduceToNat,reduceCtorEq,Int.reduceLT,Int.reduceLE,Int.reduceGT,Int.reduceGE,Int.reduceEq,Int.reduceNe,Int.reduceNeg,Int.reduceAdd,Int.reduceSub,decide_eq_true hst,sitC,Ins.cells,eq_false hn']
    refine draw [.qu 0 1, .rd 0 1, .qu 0 1, .qu 0 0, .qu 0 0, .qu 0 0, .qu 0 0, .qu 0 0, .qu 0 0, .qu 0 0, .qu 0 0, .mn 0, .mn 1, .qu 2 2, .mn 2] (by kernel_rfl) (by kernel_rfl) ?_
    simp only [go_sem,Nat.reduceAdd,Nat.reduceSub,Nat.reduceMul,Nat.reduceEqDiff,Nat.reduceLeDiff,Nat.reduceLT,↓reduceIte,Int.reduceToNat,reduceCtorEq,Int.reduceLT,Int.reduceLE,Int.reduceGT,Int.reduceGE,Int.reduceEq,Int.reduceNe,Int.reduceNeg,Int.reduceAdd,Int.reduceSub,g2,hd,List.length_map,List.getElem?_map]
    have hins : insL a ⟨a, d, 1⟩ p.l = p.l.take (lb a p.l) ++ ⟨a, d, 1⟩ :: p.l.drop (lb a p.l) := rfl
    refine dM_call (enters_of Tryz.func104 rfl (by decide)) ((insert_c p.l (lb a p.l) (lb_le a p.l) (by omega) ⟨a, d, 1⟩).useE [3, 6] (.sl 7 0 (p.l.length + 1) none) [.rows 3 [[.view false 1 (p.s.perm.map r1), .view false 1 (p.s.byt.map rb), .view false 3 (p.l.map rp)]], .rows 3 [[.view true 0 [], .view true 0 [], .view true 0 []]], .rows 1 (p.s.byt.map rb), .dead, .rows 3 [[.view false 1 (p.s.perm.map r1), .sl 2 0 p.s.byt.length none, .sl 3 0 p.l.length none]],
      .rows 5 [[iv (stand p.s a).x.op, iv (stand p.s a).x.a, iv (stand p.s a).x.b, iv (stand p.s a).x.imm, iv (stand p.s a).n]], .dead, .rows 3 ((insL a ⟨a, d, 1⟩ p.l).map rp)] (by simp) rfl (by simp) ?_ rfl rfl ?_) ?_
    · simp only [List.map_cons, List.map_nil, bren_rp, List.getElem?_cons_succ, List.getElem?_cons_zero]
      rfl
    · simp only [patch, setMany, List.length_cons, List.length_nil, List.drop_succ_cons, List.drop_zero, List.map_cons, List.map_nil, bren_rp, hins]
      rfl
    obtain ⟨z, hz⟩ := at_lt (l := p.s.byt.map rb) (i := a.toNat) (by simpa using g3)
    have eset : (p.s.byt.map rb).set a.toNat [.int .u8 204] = (p.s.put a.toNat 204).byt.map rb := by rw [Sp.put, List.map_set]; rfl
    simp only [go_sem,Nat.reduceAdd,Nat.reduceSub,Nat.reduceMul,Nat.reduceEqDiff,Nat.reduceLeDiff,Nat.reduceLT,↓reduceIte,Int.reduceToNat,reduceCtorEq,Int.reduceLT,Int.reduceLE,Int.reduceGT,Int.reduceGE,Int.reduceEq,Int.reduceNe,Int.reduceNeg,Int.reduceAdd,Int.reduceSub,g2,g3,hd,List.length_map,List.getElem?_map,eset]
    refine up_pd (q := ⟨p.s.put a.toNat 204, insL a ⟨a, d, 1⟩ p.l⟩) 2 7 p.s.byt.length (p.l.length + 1) _ _ (by decide) rfl rfl (List.take_of_length_le (by simp [Sp.put])) (List.take_of_length_le (by simp [ins_len])) (by simp [Sp.put]) (by simp [ins_len]) (rb_lt0 _) (rp_lt0 _) ?_
    rw [← hpost]
    exact ⟨rfl, rfl⟩
theorem install_no (p : Pd) (h : p.ok) (a : Int) (h0 : (p.inst a).2 ≠ 0) : ACalls Tryz.prog 55 [p.av, iv a] [] (fun o H => o = .pan (rfd (p.inst a).2) ∧ H = []) := by
  refine ACalls.up ?_
  refine ACalls.intro (cs := []) (n := 76) Tryz.func55 rfl rfl rfl (by kernel_rfl) rfl ?_
  generalize hpost : (fun (o : Out) (H : Heap) => o = Out.pan (rfd (p.inst a).2) ∧ H = []) = post
  have fin : ∀ n H, n = (p.inst a).2 → Up 0 post (.pan (rfd n)) H := fun n H h => finp rfl (by rw [← hpost, ← h]; exact ⟨rfl, rfl⟩) H
  have hl := h.len
  simp only [go_sem,Nat.reduceAdd,Nat.reduceSub,Nat.reduceMul,Nat.reduceEqDiff,Nat.reduceLeDiff,Nat.reduceLT,↓reduceIte,Int.reduceToNat,reduceCtorEq,Int.reduceLT,Int.reduceLE,Int.reduceGT,Int.reduceGE,Int.reduceEq,Int.reduceNe,Int.reduceNeg,Int.reduceAdd,Int.reduceSub,Pd.av]
  refine rK_use (enters_of Tryz.func25 rfl (by decide)) (ACalls.pure_use (pcheck_c p) rfl rfl) ?_
  rw [Pd.chk_ok h]
  simp only [go_sem,Nat.reduceAdd,Nat.reduceSub,Nat.reduceMul,Nat.reduceEqDiff,Nat.reduceLeDiff,Nat.reduceLT,↓reduceIte,Int.reduceToNat,reduceCtorEq,Int.reduceLT,Int.reduceLE,Int.reduceGT,Int.reduceGE,Int.reduceEq,Int.reduceNe,Int.reduceNeg,Int.reduceAdd,Int.reduceSub]
  refine rK_use (enters_of Tryz.func57 rfl (by decide)) (ACalls.pure_use (pmust_ok) rfl rfl) ?_
  simp only [go_sem,Nat.reduceAdd,Nat.reduceSub,Nat.reduceMul,Nat.reduceEqDiff,Nat.reduceLeDiff,Nat.reduceLT,↓reduceIte,Int.reduceToNat,reduceCtorEq,Int.reduceLT,Int.reduceLE,Int.reduceGT,Int.reduceGE,Int.reduceEq,Int.reduceNe,Int.reduceNeg,Int.reduceAdd,Int.reduceSub]
  refine rK_use (enters_of Tryz.func58 rfl (by decide)) (pcopied_u p h.fit _) ?_
  simp only [go_sem,Nat.reduceAdd,Nat.reduceSub,Nat.reduceMul,Nat.reduceEqDiff,Nat.reduceLeDiff,Nat.reduceLT,↓reduceIte,Int.reduceToNat,reduceCtorEq,Int.reduceLT,Int.reduceLE,Int.reduceGT,Int.reduceGE,Int.reduceEq,Int.reduceNe,Int.reduceNeg,Int.reduceAdd,Int.reduceSub]
  refine rK_use (enters_of Tryz.func48 rfl (by decide)) (find_l h.sor (by omega) a 3 rfl) ?_
  rw [fnd_cur]
  unfold Pd.inst at h0 fin
  cases hc : p.cur a with
  | some y =>
    rw [hc] at h0 fin
    simp only at h0 fin
    have hlb := cur_lt hc
    obtain ⟨hy, hya⟩ := Pd.cur_at hc
    have g1 : (0 : Int) ≤ (lb a p.l : Int) ∧ (lb a p.l : Int) < (p.l.length : Int) := ⟨by omega, by omega⟩
    by_cases hn : y.n = 1000
    rotate_left
    · rw [if_neg hn] at h0; exact absurd rfl h0
    rw [if_pos hn] at fin
    simp only [go_sem,Nat.reduceAdd,Nat.reduceSub,Nat.reduceMul,Nat.reduceEqDiff,Nat.reduceLeDiff,Nat.reduceLT,↓reduceIte,Int.reduceToNat,reduceCtorEq,Int.reduceLT,Int.reduceLE,Int.reduceGT,Int.reduceGE,Int.reduceEq,Int.reduceNe,Int.reduceNeg,Int.reduceAdd,Int.reduceSub,Option.isSome_some,g1,hy,List.length_map,List.getElem?_map,eq_true hn,hlb]
    refine rK_pans (enters_of Tryz.func57 rfl (by decide)) (ACalls.pure_pan (pmust_no 2 (by decide)) rfl rfl) ?_
    simp only [go_sem,Nat.reduceAdd,Nat.reduceSub,Nat.reduceMul,Nat.reduceEqDiff,Nat.reduceLeDiff,Nat.reduceLT,↓reduceIte,Int.reduceToNat,reduceCtorEq,Int.reduceLT,Int.reduceLE,Int.reduceGT,Int.reduceGE,Int.reduceEq,Int.reduceNe,Int.reduceNeg,Int.reduceAdd,Int.reduceSub]
    exact fin 2 _ rfl
  | none =>
    rw [hc] at h0 fin
    simp only at h0 fin
    simp only [go_sem,Nat.reduceAdd,Nat.reduceSub,Nat.reduceMul,Nat.reduceEqDiff,Nat.reduceLeDiff,Nat.reduceLT,↓reduceIte,Int.reduceToNat,reduceCtorEq,Int.reduceLT,Int.reduceLE,Int.reduceGT,Int.reduceGE,Int.reduceEq,Int.reduceNe,Int.reduceNeg,Int.reduceAdd,Int.reduceSub,Option.isSome_none]
    refine rK_use (enters_of Tryz.func49 rfl (by decide)) (ACalls.pure_use (standing_c p.s h.sok a) rfl (by simp [sitC, Ins.cells, AV.lt, ltL])) ?_
    by_cases hst : (stand p.s a).e = 0
    · rw [if_pos hst] at h0 fin
      by_cases hn : p.l.length = 64
      rotate_left
      · rw [if_neg hn] at h0; exact absurd rfl h0
      rw [if_pos hn] at fin
      have hn' : (p.l.length : Int) = 64 := by omega
      simp only [go_sem,Nat.reduceAdd,Nat.reduceSub,Nat.reduceMul,Nat.reduceEqDiff,Nat.reduceLeDiff,Nat.reduceLT,↓reduceIte,Int.reduceToNat,reduceCtorEq,Int.reduceLT,Int.reduceLE,Int.reduceGT,Int.reduceGE,Int.reduceEq,Int.reduceNe,Int.reduceNeg,Int.reduceAdd,Int.reduceSub,decide_eq_true hst,sitC,Ins.cells,eq_true hn']
      refine rK_pans (enters_of Tryz.func57 rfl (by decide)) (ACalls.pure_pan (pmust_no 2 (by decide)) rfl rfl) ?_
      simp only [go_sem,Nat.reduceAdd,Nat.reduceSub,Nat.reduceMul,Nat.reduceEqDiff,Nat.reduceLeDiff,Nat.reduceLT,↓reduceIte,Int.reduceToNat,reduceCtorEq,Int.reduceLT,Int.reduceLE,Int.reduceGT,Int.reduceGE,Int.reduceEq,Int.reduceNe,Int.reduceNeg,Int.reduceAdd,Int.reduceSub]
      exact fin 2 _ rfl
    · rw [if_neg hst] at fin
      simp only [go_sem,Nat.reduceAdd,Nat.reduceSub,Nat.reduceMul,Nat.reduceEqDiff,Nat.reduceLeDiff,Nat.reduceLT,↓reduceIte,Int.reduceToNat,reduceCtorEq,Int.reduceLT,Int.reduceLE,Int.reduceGT,Int.reduceGE,Int.reduceEq,Int.reduceNe,Int.reduceNeg,Int.reduceAdd,Int.reduceSub,decide_eq_false hst,sitC,Ins.cells]
      refine rK_pans (enters_of Tryz.func57 rfl (by decide)) (ACalls.pure_pan (pmust_no 71 (by decide)) rfl rfl) ?_
      simp only [go_sem,Nat.reduceAdd,Nat.reduceSub,Nat.reduceMul,Nat.reduceEqDiff,Nat.reduceLeDiff,Nat.reduceLT,↓reduceIte,Int.reduceToNat,reduceCtorEq,Int.reduceLT,Int.reduceLE,Int.reduceGT,Int.reduceGE,Int.reduceEq,Int.reduceNe,Int.reduceNeg,Int.reduceAdd,Int.reduceSub]
      exact fin 71 _ rfl
theorem install_n (p : Pd) (h : ¬ p.ok) (a : Int) : ACalls Tryz.prog 55 [p.av, iv a] [] (fun o H => o = .pan (rfd 70) ∧ H = []) := by
  refine ACalls.up ?_
  refine ACalls.intro (cs := []) (n := 76) Tryz.func55 rfl rfl rfl (by kernel_rfl) rfl ?_
  simp only [go_sem,Nat.reduceAdd,Nat.reduceSub,Nat.reduceMul,Nat.reduceEqDiff,Nat.reduceLeDiff,Nat.reduceLT,↓reduceIte,Int.reduceToNat,reduceCtorEq,Int.reduceLT,Int.reduceLE,Int.reduceGT,Int.reduceGE,Int.reduceEq,Int.reduceNe,Int.reduceNeg,Int.reduceAdd,Int.reduceSub,Pd.av]
  refine rK_use (enters_of Tryz.func25 rfl (by decide)) (ACalls.pure_use (pcheck_c p) rfl rfl) ?_
  rw [Pd.chk_no h]
  simp only [go_sem,Nat.reduceAdd,Nat.reduceSub,Nat.reduceMul,Nat.reduceEqDiff,Nat.reduceLeDiff,Nat.reduceLT,↓reduceIte,Int.reduceToNat,reduceCtorEq,Int.reduceLT,Int.reduceLE,Int.reduceGT,Int.reduceGE,Int.reduceEq,Int.reduceNe,Int.reduceNeg,Int.reduceAdd,Int.reduceSub]
  refine rK_pans (enters_of Tryz.func57 rfl (by decide)) (ACalls.pure_pan (pmust_no 70 (by decide)) rfl rfl) ?_
  simp only [go_sem,Nat.reduceAdd,Nat.reduceSub,Nat.reduceMul,Nat.reduceEqDiff,Nat.reduceLeDiff,Nat.reduceLT,↓reduceIte,Int.reduceToNat,reduceCtorEq,Int.reduceLT,Int.reduceLE,Int.reduceGT,Int.reduceGE,Int.reduceEq,Int.reduceNe,Int.reduceNeg,Int.reduceAdd,Int.reduceSub]
  exact finp rfl ⟨rfl, rfl⟩ _
open Classical in
noncomputable def Pd.instA (p : Pd) (a : Int) : Pd × Int := if p.ok then p.inst a else (p0, 70)
theorem install_pan (p : Pd) (a : Int) (h0 : (p.instA a).2 ≠ 0) : ACalls Tryz.prog 55 [p.av, iv a] [] (fun o H => o = .pan (rfd (p.instA a).2) ∧ H = []) := by
  unfold Pd.instA at h0 ⊢
  by_cases h : p.ok
  · rw [if_pos h] at h0 ⊢
    exact install_no p h a h0
  · rw [if_neg h]
    exact install_n p h a
def Pd.cells (p : Pd) : List AV := [.view false 1 (p.s.perm.map r1), .view false 1 (p.s.byt.map rb), .view false 3 (p.l.map rp)]
def pdN : List AV := [.view true 0 [], .view true 0 [], .view true 0 []]
theorem pdN_le : LeV (.agg pdN) p0.av := .agg (.cons (.nil true false 0 1 (by simp)) (.cons (.nil true false 0 1 (by simp)) (.cons (.nil true false 0 3 (by simp)) .nil)))
theorem inst_p0 (p : Pd) (a : Int) (h0 : (p.instA a).2 ≠ 0) : (p.instA a).1 = p0 := by
  unfold Pd.instA Pd.inst at h0 ⊢
  repeat' split
  all_goals first | rfl | skip
  all_goals simp_all
theorem Install_c (p : Pd) (a : Int) (ha : I64 a) : ACalls Tryz.prog 18 [p.av, iv a] [] (fun o H => o = .ret (.tuple [(p.instA a).1.av, iv (p.instA a).2]) ∧ H = []) := by
  refine ACalls.up ?_
  refine ACalls.intro (cs := []) (n := 14) Tryz.func18 rfl rfl rfl (by kernel_rfl) rfl ?_
  generalize hpost : (fun (o : Out) (H : Heap) => o = Out.ret (.tuple [(p.instA a).1.av, iv (p.instA a).2]) ∧ H = []) = post
  simp only [go_sem,Nat.reduceAdd,Nat.reduceSub,Nat.reduceMul,Nat.reduceEqDiff,Nat.reduceLeDiff,Nat.reduceLT,↓reduceIte,Int.reduceToNat,reduceCtorEq,Int.reduceLT,Int.reduceLE,Int.reduceGT,Int.reduceGE,Int.reduceEq,Int.reduceNe,Int.reduceNeg,Int.reduceAdd,Int.reduceSub,Pd.av]
  by_cases h0 : (p.instA a).2 = 0
  · have hp : p.ok := Classical.byContradiction fun h => by rw [Pd.instA, if_neg h] at h0; cases h0
    have hcl : ACalls Tryz.prog 54 [.ptr 0 0 0, .ptr 1 0 0, .ptr 2 0 0] [.rows 3 [p.cells], .rows 1 [[iv a]], .rows 3 [pdN]] (fun o H => o = .ret (.tuple []) ∧ H = [.rows 3 [p.cells], .rows 1 [[iv a]], .rows 3 [(p.instA a).1.cells]]) := by
      refine ACalls.up ?_
      refine ACalls.intro (cs := []) (n := 6) Tryz.func54 rfl rfl rfl (by kernel_rfl) rfl ?_
      simp only [go_sem,Nat.reduceAdd,Nat.reduceSub,Nat.reduceMul,Nat.reduceEqDiff,Nat.reduceLeDiff,Nat.reduceLT,↓reduceIte,Int.reduceToNat,reduceCtorEq,Int.reduceLT,Int.reduceLE,Int.reduceGT,Int.reduceGE,Int.reduceEq,Int.reduceNe,Int.reduceNeg,Int.reduceAdd,Int.reduceSub,Pd.cells,pdN]
      have e : p.instA a = p.inst a := if_pos hp
      rw [e] at h0 ⊢
      refine rK_use (enters_of Tryz.func55 rfl (by decide)) (ACalls.pure_use (install_ok p hp a ha h0) rfl rfl) ?_
      simp only [go_sem,Nat.reduceAdd,Nat.reduceSub,Nat.reduceMul,Nat.reduceEqDiff,Nat.reduceLeDiff,Nat.reduceLT,↓reduceIte,Int.reduceToNat,reduceCtorEq,Int.reduceLT,Int.reduceLE,Int.reduceGT,Int.reduceGE,Int.reduceEq,Int.reduceNe,Int.reduceNeg,Int.reduceAdd,Int.reduceSub,Pd.av]
      exact .done ⟨rfl, rfl⟩
    refine rK_use (enters_of Tryz.func40 rfl (by decide)) (caught_ret (enters_of Tryz.func54 rfl (by decide)) hcl rfl (by simp [Blk.lt, ltL, AV.lt, Pd.cells, pdN]) (by simp [Blk.lt, ltL, AV.lt, Pd.cells]) rfl) ?_
    simp only [go_sem,Nat.reduceAdd,Nat.reduceSub,Nat.reduceMul,Nat.reduceEqDiff,Nat.reduceLeDiff,Nat.reduceLT,↓reduceIte,Int.reduceToNat,reduceCtorEq,Int.reduceLT,Int.reduceLE,Int.reduceGT,Int.reduceGE,Int.reduceEq,Int.reduceNe,Int.reduceNeg,Int.reduceAdd,Int.reduceSub,Pd.cells]
    refine finv rfl ?_ _
    rw [← hpost, h0]
    exact ⟨rfl, rfl⟩
  · have hcl : ACalls Tryz.prog 54 [.ptr 0 0 0, .ptr 1 0 0, .ptr 2 0 0] [.rows 3 [p.cells], .rows 1 [[iv a]], .rows 3 [pdN]] (fun o H => o = .pan (rfd (p.instA a).2) ∧ H = [.rows 3 [p.cells], .rows 1 [[iv a]], .rows 3 [pdN]]) := by
      refine ACalls.up ?_
      refine ACalls.intro (cs := []) (n := 6) Tryz.func54 rfl rfl rfl (by kernel_rfl) rfl ?_
      simp only [go_sem,Nat.reduceAdd,Nat.reduceSub,Nat.reduceMul,Nat.reduceEqDiff,Nat.reduceLeDiff,Nat.reduceLT,↓reduceIte,Int.reduceToNat,reduceCtorEq,Int.reduceLT,Int.reduceLE,Int.reduceGT,Int.reduceGE,Int.reduceEq,Int.reduceNe,Int.reduceNeg,Int.reduceAdd,Int.reduceSub,Pd.cells,pdN]
      refine rK_pans (enters_of Tryz.func55 rfl (by decide)) (ACalls.pure_pan (install_pan p a h0) rfl rfl) ?_
      simp only [go_sem,Nat.reduceAdd,Nat.reduceSub,Nat.reduceMul,Nat.reduceEqDiff,Nat.reduceLeDiff,Nat.reduceLT,↓reduceIte,Int.reduceToNat,reduceCtorEq,Int.reduceLT,Int.reduceLE,Int.reduceGT,Int.reduceGE,Int.reduceEq,Int.reduceNe,Int.reduceNeg,Int.reduceAdd,Int.reduceSub]
      exact .done ⟨rfl, rfl⟩
    refine rK_use (enters_of Tryz.func40 rfl (by decide)) (caught_pan (p.instA a).2 (enters_of Tryz.func54 rfl (by decide)) hcl rfl (by simp [Blk.lt, ltL, AV.lt, Pd.cells, pdN]) (by simp [Blk.lt, ltL, AV.lt, Pd.cells, pdN]) rfl) ?_
    simp only [go_sem,Nat.reduceAdd,Nat.reduceSub,Nat.reduceMul,Nat.reduceEqDiff,Nat.reduceLeDiff,Nat.reduceLT,↓reduceIte,Int.reduceToNat,reduceCtorEq,Int.reduceLT,Int.reduceLE,Int.reduceGT,Int.reduceGE,Int.reduceEq,Int.reduceNe,Int.reduceNeg,Int.reduceAdd,Int.reduceSub,Pd.cells,pdN,eq_false h0]
    refine .le (.ret (.tuple (.cons pdN_le (.cons (.refl _) .nil)))) (LeH.refl _) (finv rfl ?_ _)
    rw [← hpost, inst_p0 p a h0]
    exact ⟨rfl, rfl⟩
end Go.Proofs.YtfiflailjbmlpaaGreatDoor
set_option maxRecDepth 100000
set_option linter.unusedVariables false
set_option linter.unusedSimpArgs false
namespace Go.Proofs.YtfiflailjbmlpaaGreatDoor
open Go.AM
theorem up_cell {post : CQ} {p q : Pd} {a : Int} (nb nl : Nat) (xs ys : List (List AV)) (hx : xs.take nb = q.s.byt.map rb) (hy : ys.take nl = q.l.map rp) (hxl : nb ≤ xs.length) (hyl : nl ≤ ys.length)
    (hp : ∀ row ∈ xs, ltL 0 row = true) (hp2 : ∀ row ∈ ys, ltL 0 row = true) (h : post (.ret (.tuple [])) [.rows 3 [p.cells], .rows 1 [[iv a]], .rows 3 [q.cells]]) :
    Up 3 post (.ret (.tuple [])) [.rows 3 [p.cells], .rows 1 [[iv a]], .rows 3 [[.view false 1 (q.s.perm.map r1), .sl 3 0 nb none, .sl 4 0 nl none]], .rows 1 xs, .rows 3 ys] := by
  refine .fz 3 1 xs rfl (fun row hr x hx => ltL_mem (hp row hr) x hx) trivial ?_ ?_
  · simp only [List.set_cons_zero, List.set_cons_succ, List.forall_mem_cons]
    refine ⟨by simp [Blk.fzOk, fzOkL, AV.fzOk, Pd.cells], by simp [Blk.fzOk, fzOkL, AV.fzOk], by simp [Blk.fzOk, fzOkL, AV.fzOk, hxl], trivial, bfzOk_pure hp2, by simp⟩
  simp only [List.set_cons_zero, List.set_cons_succ, List.map_cons, List.map_nil, bfz_pure hp2]
  refine .fz 4 3 ys rfl (fun row hr x hx => ltL_mem (hp2 row hr) x hx) trivial ?_ ?_
  · simp only [List.set_cons_zero, List.set_cons_succ, List.forall_mem_cons]
    refine ⟨by simp [Blk.fz, fzL, AV.fz, Blk.fzOk, fzOkL, AV.fzOk, Pd.cells], by simp [Blk.fz, fzL, AV.fz, Blk.fzOk, fzOkL, AV.fzOk], by simp [Blk.fz, fzL, AV.fz, Blk.fzOk, fzOkL, AV.fzOk, hyl], trivial, trivial, by simp⟩
  simp only [Pd.cells, List.set_cons_zero, List.set_cons_succ, List.map_cons, List.map_nil, Blk.fz, fzL, AV.fz, Out.fz, if_true, if_false, Nat.reduceEqDiff, reduceIte, List.drop_zero, hx, hy]
  refine .gc 3 (Nat.le_refl _) (by simp) rfl (by simp [Blk.lt, ltL, AV.lt, Pd.cells]) (.done ?_)
  exact h
theorem remove1_ok (p : Pd) (h : p.ok) (a : Int) (h0 : (p.rem a).2 = 0) : ACalls Tryz.prog 56 [.ptr 0 0 0, .ptr 1 0 0, .ptr 2 0 0] [.rows 3 [p.cells], .rows 1 [[iv a]], .rows 3 [pdN]] (fun o H => o = .ret (.tuple []) ∧ H = [.rows 3 [p.cells], .rows 1 [[iv a]], .rows 3 [(p.rem a).1.cells]]) := by
  refine ACalls.up ?_
  refine ACalls.intro (cs := []) (n := 54) Tryz.func56 rfl rfl rfl (by kernel_rfl) rfl ?_
  generalize hpost : (fun (o : Out) (H : Heap) => o = Out.ret (.tuple []) ∧ H = [.rows 3 [p.cells], .rows 1 [[iv a]], .rows 3 [(p.rem a).1.cells]]) = post
  have hl := h.len
  have hbl := byt_len h.sok
  simp only [go_sem,Nat.reduceAdd,Nat.reduceSub,Nat.reduceMul,Nat.reduceEqDiff,Nat.reduceLeDiff,Nat.reduceLT,↓reduceIte,Int.reduceToNat,reduceCtorEq,Int.reduceLT,Int.reduceLE,Int.reduceGT,Int.reduceGE,Int.reduceEq,Int.reduceNe,Int.reduceNeg,Int.reduceAdd,Int.reduceSub,Pd.cells,pdN]
  refine rK_use (enters_of Tryz.func25 rfl (by decide)) (ACalls.pure_use (pcheck_c p) rfl rfl) ?_
  rw [Pd.chk_ok h]
  simp only [go_sem,Nat.reduceAdd,Nat.reduceSub,Nat.reduceMul,Nat.reduceEqDiff,Nat.reduceLeDiff,Nat.reduceLT,↓reduceIte,Int.reduceToNat,reduceCtorEq,Int.reduceLT,Int.reduceLE,Int.reduceGT,Int.reduceGE,Int.reduceEq,Int.reduceNe,Int.reduceNeg,Int.reduceAdd,Int.reduceSub]
  refine rK_use (enters_of Tryz.func57 rfl (by decide)) (ACalls.pure_use (pmust_ok) rfl rfl) ?_
  simp only [go_sem,Nat.reduceAdd,Nat.reduceSub,Nat.reduceMul,Nat.reduceEqDiff,Nat.reduceLeDiff,Nat.reduceLT,↓reduceIte,Int.reduceToNat,reduceCtorEq,Int.reduceLT,Int.reduceLE,Int.reduceGT,Int.reduceGE,Int.reduceEq,Int.reduceNe,Int.reduceNeg,Int.reduceAdd,Int.reduceSub]
  refine rK_use (enters_of Tryz.func48 rfl (by decide)) (ACalls.pure_use (find_c p.l h.sor (by omega) a) rfl rfl) ?_
  rw [fnd_cur]
  unfold Pd.rem at h0 hpost
  cases hc : p.cur a with
  | none => rw [hc] at h0; cases h0
  | some y =>
    rw [hc] at h0 hpost
    simp only at h0 hpost
    have hlb := cur_lt hc
    obtain ⟨hy, hya⟩ := Pd.cur_at hc
    have hf := h.fits y (List.mem_of_getElem? hy)
    have hn1 := hf.n1
    have hn2 := hf.n2
    have g1 : (0 : Int) ≤ (lb a p.l : Int) ∧ (lb a p.l : Int) < (p.l.length : Int) := ⟨by omega, by omega⟩
    have e1 : iw .i64 (y.n - 1) = y.n - 1 := by rw [iw64] <;> omega
    simp only [go_sem,Nat.reduceAdd,Nat.reduceSub,Nat.reduceMul,Nat.reduceEqDiff,Nat.reduceLeDiff,Nat.reduceLT,↓reduceIte,Int.reduceToNat,reduceCtorEq,Int.reduceLT,Int.reduceLE,Int.reduceGT,Int.reduceGE,Int.reduceEq,Int.reduceNe,Int.reduceNeg,Int.reduceAdd,Int.reduceSub,Option.isSome_some]
    refine rK_use (enters_of Tryz.func58 rfl (by decide)) (pcopied_u p h.fit _) ?_
    have hset : (p.l.map rp).set (lb a p.l) [iv y.at_, bv y.old, iv (y.n - 1)] = (p.l.set (lb a p.l) ⟨y.at_, y.old, y.n - 1⟩).map rp := set_rp _ _ ⟨y.at_, y.old, y.n - 1⟩
    have hs1 : (p.l.set (lb a p.l) ⟨y.at_, y.old, y.n - 1⟩)[lb a p.l]? = some ⟨y.at_, y.old, y.n - 1⟩ := List.getElem?_set_self hlb
    simp only [go_sem,Nat.reduceAdd,Nat.reduceSub,Nat.reduceMul,Nat.reduceEqDiff,Nat.reduceLeDiff,Nat.reduceLT,↓reduceIte,Int.reduceToNat,reduceCtorEq,Int.reduceLT,Int.reduceLE,Int.reduceGT,Int.reduceGE,Int.reduceEq,Int.reduceNe,Int.reduceNeg,Int.reduceAdd,Int.reduceSub,g1,hy,List.length_map,List.getElem?_map,e1,hlb,hset,hs1,List.length_set]
    by_cases hn : y.n = 1
    · rw [if_pos hn] at hpost
      have hz : y.n - 1 = 0 := by omega
      have e2 : iw .i64 ((lb a p.l : Int) + 1) = ((lb a p.l + 1 : Nat) : Int) := by rw [iw64] <;> omega
      have g2 : (0 : Int) ≤ a ∧ a < (p.s.byt.length : Int) := by rw [← hya]; exact ⟨hf.a0, hf.a1⟩
      have g3 : a.toNat < p.s.byt.length := by omega
      obtain ⟨z, hzz⟩ := at_lt (l := p.s.byt) (i := a.toNat) g3
      have eset : (p.s.byt.map rb).set a.toNat [.int .u8 (y.old.toNat : Int)] = (p.s.put a.toNat y.old).byt.map rb := by rw [Sp.put, List.map_set]
      simp only [go_sem,Nat.reduceAdd,Nat.reduceSub,Nat.reduceMul,Nat.reduceEqDiff,Nat.reduceLeDiff,Nat.reduceLT,↓reduceIte,Int.reduceToNat,reduceCtorEq,Int.reduceLT,Int.reduceLE,Int.reduceGT,Int.reduceGE,Int.reduceEq,Int.reduceNe,Int.reduceNeg,Int.reduceAdd,Int.reduceSub,eq_true hz]
      refine draw [.qu 0 0, .qu 0 0, .qu 0 0, .qu 0 0, .qu 0 0, .qu 0 0, .qu 0 0, .qu 0 0, .qu 0 0, .qu 0 0, .qu 0 0, .mn 0] (by kernel_rfl) (by kernel_rfl) ?_
      simp only [go_sem,Nat.reduceAdd,Nat.reduceSub,Nat.reduceMul,Nat.reduceEqDiff,Nat.reduceLeDiff,Nat.reduceLT,↓reduceIte,Int.reduceToNat,reduceCtorEq,Int.reduceLT,Int.reduceLE,Int.reduceGT,Int.reduceGE,Int.reduceEq,Int.reduceNe,Int.reduceNeg,Int.reduceAdd,Int.reduceSub,g1,g2,g3,hs1,hzz,List.length_map,List.getElem?_map,List.length_set,eset,e2]
      have hdel := delete_c (p.l.set (lb a p.l) ⟨y.at_, y.old, y.n - 1⟩) (lb a p.l) (by rw [List.length_set]; exact hlb) (by rw [List.length_set]; omega)
      rw [List.length_set, List.eraseIdx_set_eq] at hdel
      refine rK_use (enters_of Tryz.func59 rfl (by decide)) (hdel.useE [4] (.sl 4 0 (p.l.length - 1) none) [.rows 3 [p.cells], .rows 1 [[iv a]], .rows 3 [[.view false 1 (p.s.perm.map r1), .sl 3 0 p.s.byt.length none, .sl 4 0 p.l.length none]], .rows 1 ((p.s.put a.toNat y.old).byt.map rb), .rows 3 ((p.l.eraseIdx (lb a p.l)).map rp ++ [rz])] (by simp) rfl (by simp) ?_ rfl rfl ?_) ?_
      · simp only [List.map_cons, List.map_nil, bren_rp, List.getElem?_cons_succ, List.getElem?_cons_zero]
      · have : Blk.ren (pi [4] 5) (.rows 3 ((p.l.eraseIdx (lb a p.l)).map rp ++ [rz])) = .rows 3 ((p.l.eraseIdx (lb a p.l)).map rp ++ [rz]) := bren_lt (m := 0) (fun k hk => absurd hk (Nat.not_lt_zero _)) (fun row hr => by
          rcases List.mem_append.1 hr with hr | hr
          · exact rp_lt0 _ row hr
          · rw [List.mem_singleton] at hr; subst hr; rfl)
        simp only [patch, setMany, List.length_cons, List.length_nil, List.drop_succ_cons, List.drop_zero, List.map_cons, List.map_nil, Nat.zero_add, Nat.reduceAdd, this]
        rfl
      have hle : (p.l.eraseIdx (lb a p.l)).length = p.l.length - 1 := by rw [List.length_eraseIdx, if_pos hlb]
      simp only [go_sem,Nat.reduceAdd,Nat.reduceSub,Nat.reduceMul,Nat.reduceEqDiff,Nat.reduceLeDiff,Nat.reduceLT,↓reduceIte,Int.reduceToNat,reduceCtorEq,Int.reduceLT,Int.reduceLE,Int.reduceGT,Int.reduceGE,Int.reduceEq,Int.reduceNe,Int.reduceNeg,Int.reduceAdd,Int.reduceSub,Pd.cells]
      refine up_cell (q := ⟨p.s.put a.toNat y.old, p.l.eraseIdx (lb a p.l)⟩) p.s.byt.length (p.l.length - 1) _ _ (List.take_of_length_le (by simp [Sp.put])) ?_ (by simp [Sp.put]) (by simp [hle]) (rb_lt0 _) ?_ ?_
      · rw [List.take_append_of_le_length (by simp [hle]), List.take_of_length_le (by simp [hle])]
      · intro row hr
        rcases List.mem_append.1 hr with hr | hr
        · exact rp_lt0 _ row hr
        · rw [List.mem_singleton] at hr; subst hr; rfl
      · rw [← hpost]
        exact ⟨rfl, rfl⟩
    · rw [if_neg hn] at hpost
      have hz : ¬ y.n - 1 = 0 := by omega
      simp only [go_sem,Nat.reduceAdd,Nat.reduceSub,Nat.reduceMul,Nat.reduceEqDiff,Nat.reduceLeDiff,Nat.reduceLT,↓reduceIte,Int.reduceToNat,reduceCtorEq,Int.reduceLT,Int.reduceLE,Int.reduceGT,Int.reduceGE,Int.reduceEq,Int.reduceNe,Int.reduceNeg,Int.reduceAdd,Int.reduceSub,eq_false hz]
      refine up_cell (q := ⟨p.s, p.l.set (lb a p.l) ⟨y.at_, y.old, y.n - 1⟩⟩) p.s.byt.length p.l.length _ _ (List.take_of_length_le (by simp)) (List.take_of_length_le (by simp)) (by simp) (by simp) (rb_lt0 _) (rp_lt0 _) ?_
      rw [← hpost]
      exact ⟨rfl, rfl⟩
noncomputable def Pd.remA (p : Pd) (a : Int) : Pd × Int := if p.chk = 0 then p.rem a else (p0, 70)
theorem remA_ok {p : Pd} (h : p.ok) (a : Int) : p.remA a = p.rem a := if_pos (Pd.chk_ok h)
theorem remA_no {p : Pd} (h : ¬ p.ok) (a : Int) : p.remA a = (p0, 70) := if_neg (by rw [Pd.chk_no h]; decide)
theorem rem_p0 (p : Pd) (a : Int) (h0 : (p.remA a).2 ≠ 0) : (p.remA a).1 = p0 := by
  by_cases h : p.ok
  · rw [remA_ok h] at h0 ⊢
    unfold Pd.rem at h0 ⊢
    cases hc : p.cur a with
    | none => rfl
    | some y =>
      rw [hc] at h0
      simp only at h0 ⊢
      split at h0 <;> exact absurd rfl h0
  · rw [remA_no h]
theorem remove1_pan (p : Pd) (a : Int) (h0 : (p.remA a).2 ≠ 0) : ACalls Tryz.prog 56 [.ptr 0 0 0, .ptr 1 0 0, .ptr 2 0 0] [.rows 3 [p.cells], .rows 1 [[iv a]], .rows 3 [pdN]] (fun o H => o = .pan (rfd (p.remA a).2) ∧ H = [.rows 3 [p.cells], .rows 1 [[iv a]], .rows 3 [pdN]]) := by
  refine ACalls.up ?_
  refine ACalls.intro (cs := []) (n := 54) Tryz.func56 rfl rfl rfl (by kernel_rfl) rfl ?_
  generalize hpost : (fun (o : Out) (H : Heap) => o = Out.pan (rfd (p.remA a).2) ∧ H = [.rows 3 [p.cells], .rows 1 [[iv a]], .rows 3 [pdN]]) = post
  have fin : ∀ n, n = (p.remA a).2 → Up 3 post (.pan (rfd n)) [.rows 3 [p.cells], .rows 1 [[iv a]], .rows 3 [pdN]] := fun n h => .done (by rw [← hpost, ← h]; exact ⟨rfl, rfl⟩)
  simp only [go_sem,Nat.reduceAdd,Nat.reduceSub,Nat.reduceMul,Nat.reduceEqDiff,Nat.reduceLeDiff,Nat.reduceLT,↓reduceIte,Int.reduceToNat,reduceCtorEq,Int.reduceLT,Int.reduceLE,Int.reduceGT,Int.reduceGE,Int.reduceEq,Int.reduceNe,Int.reduceNeg,Int.reduceAdd,Int.reduceSub,Pd.cells,pdN]
  refine rK_use (enters_of Tryz.func25 rfl (by decide)) (ACalls.pure_use (pcheck_c p) rfl rfl) ?_
  by_cases h : p.ok
  rotate_left
  · rw [Pd.chk_no h]
    simp only [go_sem,Nat.reduceAdd,Nat.reduceSub,Nat.reduceMul,Nat.reduceEqDiff,Nat.reduceLeDiff,Nat.reduceLT,↓reduceIte,Int.reduceToNat,reduceCtorEq,Int.reduceLT,Int.reduceLE,Int.reduceGT,Int.reduceGE,Int.reduceEq,Int.reduceNe,Int.reduceNeg,Int.reduceAdd,Int.reduceSub]
    refine rK_pans (enters_of Tryz.func57 rfl (by decide)) (ACalls.pure_pan (pmust_no 70 (by decide)) rfl rfl) ?_
    simp only [go_sem,Nat.reduceAdd,Nat.reduceSub,Nat.reduceMul,Nat.reduceEqDiff,Nat.reduceLeDiff,Nat.reduceLT,↓reduceIte,Int.reduceToNat,reduceCtorEq,Int.reduceLT,Int.reduceLE,Int.reduceGT,Int.reduceGE,Int.reduceEq,Int.reduceNe,Int.reduceNeg,Int.reduceAdd,Int.reduceSub]
    exact fin 70 (by rw [remA_no h])
  have hl := h.len
  rw [Pd.chk_ok h]
  simp only [go_sem,Nat.reduceAdd,Nat.reduceSub,Nat.reduceMul,Nat.reduceEqDiff,Nat.reduceLeDiff,Nat.reduceLT,↓reduceIte,Int.reduceToNat,reduceCtorEq,Int.reduceLT,Int.reduceLE,Int.reduceGT,Int.reduceGE,Int.reduceEq,Int.reduceNe,Int.reduceNeg,Int.reduceAdd,Int.reduceSub]
  refine rK_use (enters_of Tryz.func57 rfl (by decide)) (ACalls.pure_use (pmust_ok) rfl rfl) ?_
  simp only [go_sem,Nat.reduceAdd,Nat.reduceSub,Nat.reduceMul,Nat.reduceEqDiff,Nat.reduceLeDiff,Nat.reduceLT,↓reduceIte,Int.reduceToNat,reduceCtorEq,Int.reduceLT,Int.reduceLE,Int.reduceGT,Int.reduceGE,Int.reduceEq,Int.reduceNe,Int.reduceNeg,Int.reduceAdd,Int.reduceSub]
  refine rK_use (enters_of Tryz.func48 rfl (by decide)) (ACalls.pure_use (find_c p.l h.sor (by omega) a) rfl rfl) ?_
  rw [fnd_cur]
  rw [remA_ok h] at h0 fin
  unfold Pd.rem at h0 fin
  cases hc : p.cur a with
  | none =>
    rw [hc] at fin
    simp only [go_sem,Nat.reduceAdd,Nat.reduceSub,Nat.reduceMul,Nat.reduceEqDiff,Nat.reduceLeDiff,Nat.reduceLT,↓reduceIte,Int.reduceToNat,reduceCtorEq,Int.reduceLT,Int.reduceLE,Int.reduceGT,Int.reduceGE,Int.reduceEq,Int.reduceNe,Int.reduceNeg,Int.reduceAdd,Int.reduceSub,Option.isSome_none]
    refine rK_pans (enters_of Tryz.func57 rfl (by decide)) (ACalls.pure_pan (pmust_no 3 (by decide)) rfl rfl) ?_
    simp only [go_sem,Nat.reduceAdd,Nat.reduceSub,Nat.reduceMul,Nat.reduceEqDiff,Nat.reduceLeDiff,Nat.reduceLT,↓reduceIte,Int.reduceToNat,reduceCtorEq,Int.reduceLT,Int.reduceLE,Int.reduceGT,Int.reduceGE,Int.reduceEq,Int.reduceNe,Int.reduceNeg,Int.reduceAdd,Int.reduceSub]
    exact fin 3 rfl
  | some y =>
    rw [hc] at h0
    simp only at h0
    split at h0 <;> exact absurd rfl h0
theorem Remove_c (p : Pd) (a : Int) : ACalls Tryz.prog 19 [p.av, iv a] [] (fun o H => o = .ret (.tuple [(p.remA a).1.av, iv (p.remA a).2]) ∧ H = []) := by
  refine ACalls.up ?_
  refine ACalls.intro (cs := []) (n := 13) Tryz.func19 rfl rfl rfl (by kernel_rfl) rfl ?_
  generalize hpost : (fun (o : Out) (H : Heap) => o = Out.ret (.tuple [(p.remA a).1.av, iv (p.remA a).2]) ∧ H = []) = post
  simp only [go_sem,Nat.reduceAdd,Nat.reduceSub,Nat.reduceMul,Nat.reduceEqDiff,Nat.reduceLeDiff,Nat.reduceLT,↓reduceIte,Int.reduceToNat,reduceCtorEq,Int.reduceLT,Int.reduceLE,Int.reduceGT,Int.reduceGE,Int.reduceEq,Int.reduceNe,Int.reduceNeg,Int.reduceAdd,Int.reduceSub,Pd.av]
  by_cases h0 : (p.remA a).2 = 0
  · have hp : p.ok := Classical.byContradiction fun h => by rw [remA_no h] at h0; cases h0
    have e := remA_ok hp a
    have hcl := remove1_ok p hp a (by rw [← e]; exact h0)
    rw [← e] at hcl
    refine rK_use (enters_of Tryz.func40 rfl (by decide)) (caught_ret (enters_of Tryz.func56 rfl (by decide)) hcl rfl (by simp [Blk.lt, ltL, AV.lt, Pd.cells, pdN]) (by simp [Blk.lt, ltL, AV.lt, Pd.cells]) rfl) ?_
    simp only [go_sem,Nat.reduceAdd,Nat.reduceSub,Nat.reduceMul,Nat.reduceEqDiff,Nat.reduceLeDiff,Nat.reduceLT,↓reduceIte,Int.reduceToNat,reduceCtorEq,Int.reduceLT,Int.reduceLE,Int.reduceGT,Int.reduceGE,Int.reduceEq,Int.reduceNe,Int.reduceNeg,Int.reduceAdd,Int.reduceSub,Pd.cells]
    refine finv rfl ?_ _
    rw [← hpost, h0]
    exact ⟨rfl, rfl⟩
  · refine rK_use (enters_of Tryz.func40 rfl (by decide)) (caught_pan (p.remA a).2 (enters_of Tryz.func56 rfl (by decide)) (remove1_pan p a h0) rfl (by simp [Blk.lt, ltL, AV.lt, Pd.cells, pdN]) (by simp [Blk.lt, ltL, AV.lt, Pd.cells, pdN]) rfl) ?_
    simp only [go_sem,Nat.reduceAdd,Nat.reduceSub,Nat.reduceMul,Nat.reduceEqDiff,Nat.reduceLeDiff,Nat.reduceLT,↓reduceIte,Int.reduceToNat,reduceCtorEq,Int.reduceLT,Int.reduceLE,Int.reduceGT,Int.reduceGE,Int.reduceEq,Int.reduceNe,Int.reduceNeg,Int.reduceAdd,Int.reduceSub,Pd.cells,pdN,eq_false h0]
    refine .le (.ret (.tuple (.cons pdN_le (.cons (.refl _) .nil)))) (LeH.refl _) (finv rfl ?_ _)
    rw [← hpost, rem_p0 p a h0]
    exact ⟨rfl, rfl⟩
end Go.Proofs.YtfiflailjbmlpaaGreatDoor
set_option maxRecDepth 100000
set_option linter.unusedVariables false
set_option linter.unusedSimpArgs false
namespace Go.Proofs.YtfiflailjbmlpaaGreatDoor
open Go.AM
theorem has_cur {p : Pd} (hs : Srt p.l) (a : Int) : p.has a = (p.cur a).isSome := by
  cases hc : p.cur a with
  | none => exact (Pd.cur_none hs).1 hc
  | some y =>
    have := (Pd.cur_some hs).1 hc
    exact Pd.has_true.2 ⟨y, this.1, this.2⟩
theorem pstep_c (p : Pd) (h : p.ok) (r : Rg) (hr : r.wf) (slot : Int) (hs : I64 slot) : ACalls Tryz.prog 42 [p.av, r.av, iv slot] [] (fun o H => o = .ret (.tuple [(p.stepE r slot).1.av, iv (p.stepE r slot).2]) ∧ H = []) := by
  refine ACalls.up ?_
  refine ACalls.intro (cs := []) (n := 131) Tryz.func42 rfl rfl rfl (by kernel_rfl) rfl ?_
  generalize hpost : (fun (o : Out) (H : Heap) => o = Out.ret (.tuple [(p.stepE r slot).1.av, iv (p.stepE r slot).2]) ∧ H = []) = post
  have fin : ∀ (e : Eff) n H, (e, n) = p.stepE r slot → Up 0 post (.ret (.tuple [.agg e.cells, iv n])) H := fun e n H h => finv (by simp [AV.lt, ltL, Eff.cells, Eff.cellsD]) (by rw [← hpost, ← h]; exact ⟨rfl, rfl⟩) H
  have hl := h.len
  simp only [go_sem,Nat.reduceAdd,Nat.reduceSub,Nat.reduceMul,Nat.reduceEqDiff,Nat.reduceLeDiff,Nat.reduceLT,↓reduceIte,Int.reduceToNat,reduceCtorEq,Int.reduceLT,Int.reduceLE,Int.reduceGT,Int.reduceGE,Int.reduceEq,Int.reduceNe,Int.reduceNeg,Int.reduceAdd,Int.reduceSub,Pd.av,Rg.av,Rg.cells]
  refine rK_use (enters_of Tryz.func25 rfl (by decide)) (ACalls.pure_use (pcheck_c p) rfl rfl) ?_
  rw [Pd.chk_ok h]
  simp only [go_sem,Nat.reduceAdd,Nat.reduceSub,Nat.reduceMul,Nat.reduceEqDiff,Nat.reduceLeDiff,Nat.reduceLT,↓reduceIte,Int.reduceToNat,reduceCtorEq,Int.reduceLT,Int.reduceLE,Int.reduceGT,Int.reduceGE,Int.reduceEq,Int.reduceNe,Int.reduceNeg,Int.reduceAdd,Int.reduceSub]
  refine rK_use (enters_of Tryz.func57 rfl (by decide)) (ACalls.pure_use (pmust_ok) rfl rfl) ?_
  simp only [go_sem,Nat.reduceAdd,Nat.reduceSub,Nat.reduceMul,Nat.reduceEqDiff,Nat.reduceLeDiff,Nat.reduceLT,↓reduceIte,Int.reduceToNat,reduceCtorEq,Int.reduceLT,Int.reduceLE,Int.reduceGT,Int.reduceGE,Int.reduceEq,Int.reduceNe,Int.reduceNeg,Int.reduceAdd,Int.reduceSub]
  refine rK_use (enters_of Tryz.func48 rfl (by decide)) (ACalls.pure_use (find_c p.l h.sor (by omega) r.pc) rfl rfl) ?_
  rw [fnd_cur]
  cases hc : p.cur r.pc with
  | none =>
    simp only [go_sem,Nat.reduceAdd,Nat.reduceSub,Nat.reduceMul,Nat.reduceEqDiff,Nat.reduceLeDiff,Nat.reduceLT,↓reduceIte,Int.reduceToNat,reduceCtorEq,Int.reduceLT,Int.reduceLE,Int.reduceGT,Int.reduceGE,Int.reduceEq,Int.reduceNe,Int.reduceNeg,Int.reduceAdd,Int.reduceSub,Option.isSome_none]
    refine rK_use (enters_of Tryz.func35 rfl (by decide)) (ACalls.pure_use (Step_c p.s h.sok r hr) rfl rfl) ?_
    simp only [go_sem,Nat.reduceAdd,Nat.reduceSub,Nat.reduceMul,Nat.reduceEqDiff,Nat.reduceLeDiff,Nat.reduceLT,↓reduceIte,Int.reduceToNat,reduceCtorEq,Int.reduceLT,Int.reduceLE,Int.reduceGT,Int.reduceGE,Int.reduceEq,Int.reduceNe,Int.reduceNeg,Int.reduceAdd,Int.reduceSub,Eff.av,Eff.cells,Eff.cellsD]
    refine rK_use (enters_of Tryz.func57 rfl (by decide)) (ACalls.pure_use (pmust_ok) rfl rfl) ?_
    simp only [go_sem,Nat.reduceAdd,Nat.reduceSub,Nat.reduceMul,Nat.reduceEqDiff,Nat.reduceLeDiff,Nat.reduceLT,↓reduceIte,Int.reduceToNat,reduceCtorEq,Int.reduceLT,Int.reduceLE,Int.reduceGT,Int.reduceGE,Int.reduceEq,Int.reduceNe,Int.reduceNeg,Int.reduceAdd,Int.reduceSub]
    exact fin (step p.s r) 0 _ (by rw [Pd.stepE, has_cur h.sor, hc, Option.isSome_none, if_neg (by decide)])
  | some y =>
    have hmem := (Pd.cur_some h.sor).1 hc
    have hst : (stand p.clean r.pc).e = 0 := by rw [← hmem.2]; exact h.std y hmem.1
    have hxo : (stand p.clean r.pc).x.ok := dec_ok hst
    simp only [go_sem,Nat.reduceAdd,Nat.reduceSub,Nat.reduceMul,Nat.reduceEqDiff,Nat.reduceLeDiff,Nat.reduceLT,↓reduceIte,Int.reduceToNat,reduceCtorEq,Int.reduceLT,Int.reduceLE,Int.reduceGT,Int.reduceGE,Int.reduceEq,Int.reduceNe,Int.reduceNeg,Int.reduceAdd,Int.reduceSub,Option.isSome_some]
    have hfi : p.stepE r slot = (if (dispE (stand p.clean r.pc).x r.pc slot).2 = 3 then (exec (stand p.clean r.pc).x p.s r, 3)
        else (fixE (stand p.clean r.pc).x (stand p.clean r.pc).n r.pc slot (exec (dispE (stand p.clean r.pc).x r.pc slot).1 p.s (r.at' slot)), (dispE (stand p.clean r.pc).x r.pc slot).2)) := by
      rw [Pd.stepE, has_cur h.sor, hc, Option.isSome_some, if_pos rfl]
    have hdo := disp_ok hxo r.pc slot
    refine draw [.rd 0 1, .qu 0 1, .qu 0 1, .rd 0 1, .qu 0 1, .qu 0 1, .qu 0 1, .qu 0 2, .mn 0, .mn 1, .qu 2 2] (by kernel_rfl) (by kernel_rfl) ?_
    simp only [go_sem,Nat.reduceAdd,Nat.reduceSub,Nat.reduceMul,Nat.reduceEqDiff,Nat.reduceLeDiff,Nat.reduceLT,↓reduceIte,Int.reduceToNat,reduceCtorEq,Int.reduceLT,Int.reduceLE,Int.reduceGT,Int.reduceGE,Int.reduceEq,Int.reduceNe,Int.reduceNeg,Int.reduceAdd,Int.reduceSub]
    refine y_call (enters_of Tryz.func50 rfl (by decide)) (fun _ => ACalls.pure_use (clean_c p h.fit h.bounds) rfl rfl) ?_
    simp only [go_sem,Nat.reduceAdd,Nat.reduceSub,Nat.reduceMul,Nat.reduceEqDiff,Nat.reduceLeDiff,Nat.reduceLT,↓reduceIte,Int.reduceToNat,reduceCtorEq,Int.reduceLT,Int.reduceLE,Int.reduceGT,Int.reduceGE,Int.reduceEq,Int.reduceNe,Int.reduceNeg,Int.reduceAdd,Int.reduceSub,Sp.av]
    refine y_call (enters_of Tryz.func49 rfl (by decide)) (fun _ => ACalls.pure_use (standing_c p.clean h.cok r.pc) rfl (by simp [sitC, Ins.cells, AV.lt, ltL])) ?_
    simp only [go_sem,Nat.reduceAdd,Nat.reduceSub,Nat.reduceMul,Nat.reduceEqDiff,Nat.reduceLeDiff,Nat.reduceLT,↓reduceIte,Int.reduceToNat,reduceCtorEq,Int.reduceLT,Int.reduceLE,Int.reduceGT,Int.reduceGE,Int.reduceEq,Int.reduceNe,Int.reduceNeg,Int.reduceAdd,Int.reduceSub,sitC,Ins.cells]
    generalize stand p.clean r.pc = D at *
    refine rK_use (enters_of Tryz.func52 rfl (by decide)) (ACalls.pure_use (displaced_c D.x r.pc slot) rfl rfl) ?_
    generalize dispE D.x r.pc slot = E at *
    simp only [go_sem,Nat.reduceAdd,Nat.reduceSub,Nat.reduceMul,Nat.reduceEqDiff,Nat.reduceLeDiff,Nat.reduceLT,↓reduceIte,Int.reduceToNat,reduceCtorEq,Int.reduceLT,Int.reduceLE,Int.reduceGT,Int.reduceGE,Int.reduceEq,Int.reduceNe,Int.reduceNeg,Int.reduceAdd,Int.reduceSub,Ins.av,Ins.cells]
    rcases Decidable.em (E.2 = 3) with h3 | h3
    · simp only [go_sem,Nat.reduceAdd,Nat.reduceSub,Nat.reduceMul,Nat.reduceEqDiff,Nat.reduceLeDiff,Nat.reduceLT,↓reduceIte,Int.reduceToNat,reduceCtorEq,Int.reduceLT,Int.reduceLE,Int.reduceGT,Int.reduceGE,Int.reduceEq,Int.reduceNe,Int.reduceNeg,Int.reduceAdd,Int.reduceSub,eq_true h3]
      refine rK_use (enters_of Tryz.func80 rfl (by decide)) (ACalls.pure_use (Exec_c D.x hxo p.s h.sok r hr) rfl rfl) ?_
      simp only [go_sem,Nat.reduceAdd,Nat.reduceSub,Nat.reduceMul,Nat.reduceEqDiff,Nat.reduceLeDiff,Nat.reduceLT,↓reduceIte,Int.reduceToNat,reduceCtorEq,Int.reduceLT,Int.reduceLE,Int.reduceGT,Int.reduceGE,Int.reduceEq,Int.reduceNe,Int.reduceNeg,Int.reduceAdd,Int.reduceSub,Eff.av,Eff.cells,Eff.cellsD]
      refine rK_use (enters_of Tryz.func57 rfl (by decide)) (ACalls.pure_use (pmust_ok) rfl rfl) ?_
      simp only [go_sem,Nat.reduceAdd,Nat.reduceSub,Nat.reduceMul,Nat.reduceEqDiff,Nat.reduceLeDiff,Nat.reduceLT,↓reduceIte,Int.reduceToNat,reduceCtorEq,Int.reduceLT,Int.reduceLE,Int.reduceGT,Int.reduceGE,Int.reduceEq,Int.reduceNe,Int.reduceNeg,Int.reduceAdd,Int.reduceSub]
      exact fin (exec D.x p.s r) E.2 _ (by rw [hfi, if_pos h3, h3])
    · rw [if_neg h3] at hfi
      simp only [go_sem,Nat.reduceAdd,Nat.reduceSub,Nat.reduceMul,Nat.reduceEqDiff,Nat.reduceLeDiff,Nat.reduceLT,↓reduceIte,Int.reduceToNat,reduceCtorEq,Int.reduceLT,Int.reduceLE,Int.reduceGT,Int.reduceGE,Int.reduceEq,Int.reduceNe,Int.reduceNeg,Int.reduceAdd,Int.reduceSub,eq_false h3]
      refine rK_use (enters_of Tryz.func80 rfl (by decide)) (ACalls.pure_use (Exec_c E.1 hdo p.s h.sok (r.at' slot) ⟨hr.reg, hs⟩) rfl rfl) ?_
      generalize exec E.1 p.s (r.at' slot) = F at *
      simp only [go_sem,Nat.reduceAdd,Nat.reduceSub,Nat.reduceMul,Nat.reduceEqDiff,Nat.reduceLeDiff,Nat.reduceLT,↓reduceIte,Int.reduceToNat,reduceCtorEq,Int.reduceLT,Int.reduceLE,Int.reduceGT,Int.reduceGE,Int.reduceEq,Int.reduceNe,Int.reduceNeg,Int.reduceAdd,Int.reduceSub,Eff.av,Eff.cells,Eff.cellsD]
      refine rK_use (enters_of Tryz.func57 rfl (by decide)) (ACalls.pure_use (pmust_ok) rfl rfl) ?_
      simp only [go_sem,Nat.reduceAdd,Nat.reduceSub,Nat.reduceMul,Nat.reduceEqDiff,Nat.reduceLeDiff,Nat.reduceLT,↓reduceIte,Int.reduceToNat,reduceCtorEq,Int.reduceLT,Int.reduceLE,Int.reduceGT,Int.reduceGE,Int.reduceEq,Int.reduceNe,Int.reduceNeg,Int.reduceAdd,Int.reduceSub]
      refine condD_dec (fun hk => ?_) (fun hk => ?_)
      · simp only [go_sem,Nat.reduceAdd,Nat.reduceSub,Nat.reduceMul,Nat.reduceEqDiff,Nat.reduceLeDiff,Nat.reduceLT,↓reduceIte,Int.reduceToNat,reduceCtorEq,Int.reduceLT,Int.reduceLE,Int.reduceGT,Int.reduceGE,Int.reduceEq,Int.reduceNe,Int.reduceNeg,Int.reduceAdd,Int.reduceSub]
        have e : fixE D.x D.n r.pc slot F = ⟨F.rg.at' r.pc, F.pos, F.data, F.trap, D.x⟩ := by rw [fixE, if_pos hk]
        rw [e] at hfi
        exact fin ⟨F.rg.at' r.pc, F.pos, F.data, F.trap, D.x⟩ E.2 _ hfi.symm
      · have same : ¬ ((D.x.op ≠ 26 ∧ D.x.op ≠ 29) ∧ F.rg.pc = iw .i64 (slot + D.n)) → (⟨F.rg, F.pos, F.data, F.trap, D.x⟩, E.2) = p.stepE r slot := fun hn => by
          rw [hfi, fixE, if_neg hk, if_neg hn]
          rfl
        rcases Decidable.em (D.x.op = 26) with q1 | q1
        · simp only [go_sem,Nat.reduceAdd,Nat.reduceSub,Nat.reduceMul,Nat.reduceEqDiff,Nat.reduceLeDiff,Nat.reduceLT,↓reduceIte,Int.reduceToNat,reduceCtorEq,Int.reduceLT,Int.reduceLE,Int.reduceGT,Int.reduceGE,Int.reduceEq,Int.reduceNe,Int.reduceNeg,Int.reduceAdd,Int.reduceSub,eq_true q1]
          exact fin ⟨F.rg, F.pos, F.data, F.trap, D.x⟩ E.2 _ (same fun h => h.1.1 q1)
        rcases Decidable.em (D.x.op = 29) with q2 | q2
        · simp only [go_sem,Nat.reduceAdd,Nat.reduceSub,Nat.reduceMul,Nat.reduceEqDiff,Nat.reduceLeDiff,Nat.reduceLT,↓reduceIte,Int.reduceToNat,reduceCtorEq,Int.reduceLT,Int.reduceLE,Int.reduceGT,Int.reduceGE,Int.reduceEq,Int.reduceNe,Int.reduceNeg,Int.reduceAdd,Int.reduceSub,eq_false q1,eq_true q2]
          exact fin ⟨F.rg, F.pos, F.data, F.trap, D.x⟩ E.2 _ (same fun h => h.1.2 q2)
        rcases Decidable.em (F.rg.pc = iw .i64 (slot + D.n)) with q3 | q3
        · simp only [go_sem,Nat.reduceAdd,Nat.reduceSub,Nat.reduceMul,Nat.reduceEqDiff,Nat.reduceLeDiff,Nat.reduceLT,↓reduceIte,Int.reduceToNat,reduceCtorEq,Int.reduceLT,Int.reduceLE,Int.reduceGT,Int.reduceGE,Int.reduceEq,Int.reduceNe,Int.reduceNeg,Int.reduceAdd,Int.reduceSub,eq_false q1,eq_false q2,eq_true q3]
          exact fin ⟨F.rg.at' (iw .i64 (r.pc + D.n)), F.pos, F.data, F.trap, D.x⟩ E.2 _ (by rw [hfi, fixE, if_neg hk, if_pos ⟨⟨q1, q2⟩, q3⟩])
        · simp only [go_sem,Nat.reduceAdd,Nat.reduceSub,Nat.reduceMul,Nat.reduceEqDiff,Nat.reduceLeDiff,Nat.reduceLT,↓reduceIte,Int.reduceToNat,reduceCtorEq,Int.reduceLT,Int.reduceLE,Int.reduceGT,Int.reduceGE,Int.reduceEq,Int.reduceNe,Int.reduceNeg,Int.reduceAdd,Int.reduceSub,eq_false q1,eq_false q2,eq_false q3]
          exact fin ⟨F.rg, F.pos, F.data, F.trap, D.x⟩ E.2 _ (same fun h => q3 h.2)
theorem PStep_c (p : Pd) (h : p.ok) (r : Rg) (hr : r.wf) (slot : Int) (hs : I64 slot) : ACalls Tryz.prog 11 [p.av, r.av, iv slot] [] (fun o H => o = .ret (.tuple [(p.stepE r slot).1.av, iv (p.stepE r slot).2, iv 0]) ∧ H = []) := by
  refine ACalls.up ?_
  refine ACalls.intro (cs := []) (n := 17) Tryz.func11 rfl rfl rfl (by kernel_rfl) rfl ?_
  generalize hpost : (fun (o : Out) (H : Heap) => o = Out.ret (.tuple [(p.stepE r slot).1.av, iv (p.stepE r slot).2, iv 0]) ∧ H = []) = post
  simp only [go_sem,Nat.reduceAdd,Nat.reduceSub,Nat.reduceMul,Nat.reduceEqDiff,Nat.reduceLeDiff,Nat.reduceLT,↓reduceIte,Int.reduceToNat,reduceCtorEq,Int.reduceLT,Int.reduceLE,Int.reduceGT,Int.reduceGE,Int.reduceEq,Int.reduceNe,Int.reduceNeg,Int.reduceAdd,Int.reduceSub,Pd.av,Rg.av,Rg.cells]
  have hcl : ACalls Tryz.prog 41 [.ptr 0 0 0, .ptr 1 0 0, .ptr 2 0 0, .ptr 3 0 0, .ptr 4 0 0] [.rows 3 [p.cells], .rows 9 [r.cells], .rows 1 [[iv slot]], .rows 19 [eff0.cellsD dnil], .rows 1 [[iv 0]]] (fun o H => o = .ret (.tuple []) ∧ H = [.rows 3 [p.cells], .rows 9 [r.cells], .rows 1 [[iv slot]], .rows 19 [(p.stepE r slot).1.cells], .rows 1 [[iv (p.stepE r slot).2]]]) := by
    refine ACalls.up ?_
    refine ACalls.intro (cs := []) (n := 12) Tryz.func41 rfl rfl rfl (by kernel_rfl) rfl ?_
    simp only [go_sem,Nat.reduceAdd,Nat.reduceSub,Nat.reduceMul,Nat.reduceEqDiff,Nat.reduceLeDiff,Nat.reduceLT,↓reduceIte,Int.reduceToNat,reduceCtorEq,Int.reduceLT,Int.reduceLE,Int.reduceGT,Int.reduceGE,Int.reduceEq,Int.reduceNe,Int.reduceNeg,Int.reduceAdd,Int.reduceSub,Pd.cells,Rg.cells,Eff.cellsD,eff0]
    refine rK_use (enters_of Tryz.func42 rfl (by decide)) (ACalls.pure_use (pstep_c p h r hr slot hs) rfl rfl) ?_
    generalize p.stepE r slot = E at *
    simp only [go_sem,Nat.reduceAdd,Nat.reduceSub,Nat.reduceMul,Nat.reduceEqDiff,Nat.reduceLeDiff,Nat.reduceLT,↓reduceIte,Int.reduceToNat,reduceCtorEq,Int.reduceLT,Int.reduceLE,Int.reduceGT,Int.reduceGE,Int.reduceEq,Int.reduceNe,Int.reduceNeg,Int.reduceAdd,Int.reduceSub,Eff.av,Eff.cells,Eff.cellsD]
    exact .done ⟨rfl, rfl⟩
  refine rK_use (enters_of Tryz.func40 rfl (by decide)) (caught_ret (enters_of Tryz.func41 rfl (by decide)) hcl rfl (by simp [Blk.lt, ltL, AV.lt, Pd.cells, Rg.cells, Eff.cellsD]) (by simp [Blk.lt, ltL, AV.lt, Pd.cells, Rg.cells, Eff.cells, Eff.cellsD]) rfl) ?_
  generalize p.stepE r slot = E at *
  simp only [go_sem,Nat.reduceAdd,Nat.reduceSub,Nat.reduceMul,Nat.reduceEqDiff,Nat.reduceLeDiff,Nat.reduceLT,↓reduceIte,Int.reduceToNat,reduceCtorEq,Int.reduceLT,Int.reduceLE,Int.reduceGT,Int.reduceGE,Int.reduceEq,Int.reduceNe,Int.reduceNeg,Int.reduceAdd,Int.reduceSub,Eff.cells,Eff.cellsD]
  refine draw [.qu 0 0, .rd 0 1, .mn 0, .mn 1, .qu 2 2] (by kernel_rfl) (by kernel_rfl) ?_
  simp only [go_sem,Nat.reduceAdd,Nat.reduceSub,Nat.reduceMul,Nat.reduceEqDiff,Nat.reduceLeDiff,Nat.reduceLT,↓reduceIte,Int.reduceToNat,reduceCtorEq,Int.reduceLT,Int.reduceLE,Int.reduceGT,Int.reduceGE,Int.reduceEq,Int.reduceNe,Int.reduceNeg,Int.reduceAdd,Int.reduceSub]
  refine finv (by simp [AV.lt, ltL]) ?_ _
  rw [← hpost]
  exact ⟨rfl, rfl⟩
end Go.Proofs.YtfiflailjbmlpaaGreatDoor
set_option maxRecDepth 100000
set_option linter.unusedVariables false
set_option linter.unusedSimpArgs false
namespace Go.Proofs.YtfiflailjbmlpaaGreatDoor
open Go.AM
def twoP : Pd := ⟨⟨[4, 3], [144, 0, 1, 153, 122, 127, 155, 10, 0] ++ List.replicate 119 0⟩, []⟩
theorem two_c : ACalls Tryz.prog 39 [] [] (fun o H => o = .ret twoP.av ∧ H = []) := by
  refine ACalls.up ?_
  refine ACalls.intro (cs := []) (n := 8) Tryz.func39 rfl rfl rfl (by kernel_rfl) rfl ?_
  generalize hpost : (fun (o : Out) (H : Heap) => o = Out.ret twoP.av ∧ H = []) = post
  simp only [go_sem,Nat.reduceAdd,Nat.reduceSub,Nat.reduceMul,Nat.reduceEqDiff,Nat.reduceLeDiff,Nat.reduceLT,↓reduceIte,Int.reduceToNat,reduceCtorEq,Int.reduceLT,Int.reduceLE,Int.reduceGT,Int.reduceGE,Int.reduceEq,Int.reduceNe,Int.reduceNeg,Int.reduceAdd,Int.reduceSub]
  refine .le (o' := .ret (.agg [.sl 3 0 2 (some 2), .sl 2 0 128 none, .view false 3 []])) (.ret (.agg (.cons (.refl _) (.cons (.refl _) (.cons (.nil true false 0 3 (by simp)) .nil))))) (LeH.refl _) ?_
  refine up_two 3 1 (twoP.s.perm.map r1) 2 1 (twoP.s.byt.map rb) (by decide) rfl rfl (r1_lt0 _) (rb_lt0 _) ?_ ?_ ?_ ?_
  · simp [Out.fzOk, AV.fzOk, fzOkL, twoP]
  · simp [Out.fzOk, Out.fz, AV.fz, fzL, AV.fzOk, fzOkL, twoP]
  · rfl
  · rw [← hpost]
    exact ⟨rfl, rfl⟩
theorem two_ok : twoP.ok := ⟨by decide, by decide, List.Pairwise.nil, (fun x h => by cases h), (fun x h => by cases h)⟩
def p1P : Pd := ⟨twoP.s.put 0 204, [⟨0, 144, 1⟩]⟩
def p2P : Pd := ⟨twoP.s.put 0 204, [⟨0, 144, 2⟩]⟩
theorem I64z : I64 0 := by unfold I64; omega
theorem it1 : twoP.inst 0 = (p1P, 0) := by kernel_rfl
theorem it2 : twoP.inst 1 = (p0, 71) := by kernel_rfl
theorem it3 : p1P.inst 0 = (p2P, 0) := by kernel_rfl
theorem it4 : p2P.rem 0 = (p1P, 0) := by kernel_rfl
theorem it5 : p1P.rem 0 = (twoP, 0) := by kernel_rfl
theorem p1_ok : p1P.ok := by
  obtain ⟨z, h, _⟩ := inst_ok two_ok I64z (by rw [it1])
  rw [it1] at h
  exact h.ok
theorem p2_ok : p2P.ok := by
  obtain ⟨z, h, _⟩ := inst_ok p1_ok I64z (by rw [it3])
  rw [it3] at h
  exact h.ok
theorem instA_ok {p : Pd} (h : p.ok) (a : Int) : p.instA a = p.inst a := if_pos h
def rgP : Rg := ⟨4, 0, 0, 0, 0, 0, 0, 0, 0⟩
theorem sane_c : ACalls Tryz.prog 10 [] [] (fun o H => o = .ret (.bool true) ∧ H = []) := by
  refine ACalls.up ?_
  refine ACalls.intro (cs := []) (n := 178) Tryz.func10 rfl rfl rfl (by kernel_rfl) rfl ?_
  generalize hpost : (fun (o : Out) (H : Heap) => o = Out.ret (.bool true) ∧ H = []) = post
  obtain ⟨E, hE, s1, s2, s3, s4⟩ : ∃ E, p1P.stepE rgP 1000 = E ∧ E.2 = 1 ∧ E.1.rg.r0 = 5 ∧ E.1.rg.pc = 3 ∧ E.1.x.op = 16 := ⟨_, rfl, by kernel_rfl, by kernel_rfl, by kernel_rfl, by kernel_rfl⟩
  have hwf : rgP.wf := wf0 (by decide)
  simp only [go_sem,Nat.reduceAdd,Nat.reduceSub,Nat.reduceMul,Nat.reduceEqDiff,Nat.reduceLeDiff,Nat.reduceLT,↓reduceIte,Int.reduceToNat,reduceCtorEq,Int.reduceLT,Int.reduceLE,Int.reduceGT,Int.reduceGE,Int.reduceEq,Int.reduceNe,Int.reduceNeg,Int.reduceAdd,Int.reduceSub]
  refine rK_use (enters_of Tryz.func39 rfl (by decide)) (ACalls.pure_use (two_c) rfl rfl) ?_
  simp only [go_sem,Nat.reduceAdd,Nat.reduceSub,Nat.reduceMul,Nat.reduceEqDiff,Nat.reduceLeDiff,Nat.reduceLT,↓reduceIte,Int.reduceToNat,reduceCtorEq,Int.reduceLT,Int.reduceLE,Int.reduceGT,Int.reduceGE,Int.reduceEq,Int.reduceNe,Int.reduceNeg,Int.reduceAdd,Int.reduceSub]
  refine rK_use (enters_of Tryz.func18 rfl (by decide)) (ACalls.pure_use (Install_c twoP 0 I64z) rfl rfl) ?_
  rw [instA_ok two_ok, it1]
  simp only [go_sem,Nat.reduceAdd,Nat.reduceSub,Nat.reduceMul,Nat.reduceEqDiff,Nat.reduceLeDiff,Nat.reduceLT,↓reduceIte,Int.reduceToNat,reduceCtorEq,Int.reduceLT,Int.reduceLE,Int.reduceGT,Int.reduceGE,Int.reduceEq,Int.reduceNe,Int.reduceNeg,Int.reduceAdd,Int.reduceSub,Pd.av]
  refine rK_use (enters_of Tryz.func39 rfl (by decide)) (ACalls.pure_use (two_c) rfl rfl) ?_
  simp only [go_sem,Nat.reduceAdd,Nat.reduceSub,Nat.reduceMul,Nat.reduceEqDiff,Nat.reduceLeDiff,Nat.reduceLT,↓reduceIte,Int.reduceToNat,reduceCtorEq,Int.reduceLT,Int.reduceLE,Int.reduceGT,Int.reduceGE,Int.reduceEq,Int.reduceNe,Int.reduceNeg,Int.reduceAdd,Int.reduceSub]
  refine rK_use (enters_of Tryz.func18 rfl (by decide)) (ACalls.pure_use (Install_c twoP 1 (by unfold I64; omega)) rfl rfl) ?_
  rw [instA_ok two_ok, it2]
  have f1 : p1P.l.map rp = [[iv 0, .int .u8 144, iv 1]] := rfl
  have f2 : (p1P.s.byt.map rb).length = 128 := rfl
  have f3 : (p1P.s.byt.map rb)[0]? = some [.int .u8 204] := rfl
  simp only [go_sem,Nat.reduceAdd,Nat.reduceSub,Nat.reduceMul,Nat.reduceEqDiff,Nat.reduceLeDiff,Nat.reduceLT,↓reduceIte,Int.reduceToNat,reduceCtorEq,Int.reduceLT,Int.reduceLE,Int.reduceGT,Int.reduceGE,Int.reduceEq,Int.reduceNe,Int.reduceNeg,Int.reduceAdd,Int.reduceSub,Pd.av,f1,f2,f3,E92]
  refine rK_use (enters_of Tryz.func18 rfl (by decide)) (ACalls.pure_use (Install_c p1P 0 I64z) rfl rfl) ?_
  rw [instA_ok p1_ok, it3]
  simp only [go_sem,Nat.reduceAdd,Nat.reduceSub,Nat.reduceMul,Nat.reduceEqDiff,Nat.reduceLeDiff,Nat.reduceLT,↓reduceIte,Int.reduceToNat,reduceCtorEq,Int.reduceLT,Int.reduceLE,Int.reduceGT,Int.reduceGE,Int.reduceEq,Int.reduceNe,Int.reduceNeg,Int.reduceAdd,Int.reduceSub,Pd.av]
  refine rK_use (enters_of Tryz.func19 rfl (by decide)) (ACalls.pure_use (Remove_c p2P 0) rfl rfl) ?_
  rw [remA_ok p2_ok, it4]
  simp only [go_sem,Nat.reduceAdd,Nat.reduceSub,Nat.reduceMul,Nat.reduceEqDiff,Nat.reduceLeDiff,Nat.reduceLT,↓reduceIte,Int.reduceToNat,reduceCtorEq,Int.reduceLT,Int.reduceLE,Int.reduceGT,Int.reduceGE,Int.reduceEq,Int.reduceNe,Int.reduceNeg,Int.reduceAdd,Int.reduceSub,Pd.av]
  refine rK_use (enters_of Tryz.func19 rfl (by decide)) (ACalls.pure_use (Remove_c p1P 0) rfl rfl) ?_
  rw [remA_ok p1_ok, it5]
  simp only [go_sem,Nat.reduceAdd,Nat.reduceSub,Nat.reduceMul,Nat.reduceEqDiff,Nat.reduceLeDiff,Nat.reduceLT,↓reduceIte,Int.reduceToNat,reduceCtorEq,Int.reduceLT,Int.reduceLE,Int.reduceGT,Int.reduceGE,Int.reduceEq,Int.reduceNe,Int.reduceNeg,Int.reduceAdd,Int.reduceSub,Pd.av]
  have d1 : dispE ⟨25, 0, 0, -6⟩ 3 100 = (⟨25, 0, 0, -103⟩, 2) := by kernel_rfl
  have d2 : dispE ⟨21, 0, 1, 5⟩ 0 5 = (⟨21, 0, 1, 5⟩, 3) := by kernel_rfl
  have d3 : dispE ⟨27, 0, 0, 10⟩ 6 100 = (⟨27, 0, 0, 10⟩, 3) := by kernel_rfl
  refine rK_use (enters_of Tryz.func15 rfl (by decide)) (ACalls.pure_use (Displace_c ⟨25, 0, 0, -6⟩ (by decide) 3 100) rfl rfl) ?_
  rw [d1]
  simp only [go_sem,Nat.reduceAdd,Nat.reduceSub,Nat.reduceMul,Nat.reduceEqDiff,Nat.reduceLeDiff,Nat.reduceLT,↓reduceIte,Int.reduceToNat,reduceCtorEq,Int.reduceLT,Int.reduceLE,Int.reduceGT,Int.reduceGE,Int.reduceEq,Int.reduceNe,Int.reduceNeg,Int.reduceAdd,Int.reduceSub,Ins.av,Ins.cells]
  refine rK_use (enters_of Tryz.func15 rfl (by decide)) (ACalls.pure_use (Displace_c ⟨21, 0, 1, 5⟩ (by decide) 0 5) rfl rfl) ?_
  rw [d2]
  simp only [go_sem,Nat.reduceAdd,Nat.reduceSub,Nat.reduceMul,Nat.reduceEqDiff,Nat.reduceLeDiff,Nat.reduceLT,↓reduceIte,Int.reduceToNat,reduceCtorEq,Int.reduceLT,Int.reduceLE,Int.reduceGT,Int.reduceGE,Int.reduceEq,Int.reduceNe,Int.reduceNeg,Int.reduceAdd,Int.reduceSub,Ins.av,Ins.cells]
  refine rK_use (enters_of Tryz.func15 rfl (by decide)) (ACalls.pure_use (Displace_c ⟨27, 0, 0, 10⟩ (by decide) 6 100) rfl rfl) ?_
  rw [d3]
  have f4 : twoP.l.map rp = [] := rfl
  have f5 : (twoP.s.byt.map rb).length = 128 := rfl
  have f6 : (twoP.s.byt.map rb)[0]? = some [.int .u8 144] := rfl
  simp only [go_sem,Nat.reduceAdd,Nat.reduceSub,Nat.reduceMul,Nat.reduceEqDiff,Nat.reduceLeDiff,Nat.reduceLT,↓reduceIte,Int.reduceToNat,reduceCtorEq,Int.reduceLT,Int.reduceLE,Int.reduceGT,Int.reduceGE,Int.reduceEq,Int.reduceNe,Int.reduceNeg,Int.reduceAdd,Int.reduceSub,Ins.av,Ins.cells,f4,f5,f6]
  refine rK_use (enters_of Tryz.func11 rfl (by decide)) (ACalls.pure_use (PStep_c p1P p1_ok rgP hwf 1000 (by unfold I64; omega)) rfl rfl) ?_
  rw [hE]
  simp only [go_sem,Nat.reduceAdd,Nat.reduceSub,Nat.reduceMul,Nat.reduceEqDiff,Nat.reduceLeDiff,Nat.reduceLT,↓reduceIte,Int.reduceToNat,reduceCtorEq,Int.reduceLT,Int.reduceLE,Int.reduceGT,Int.reduceGE,Int.reduceEq,Int.reduceNe,Int.reduceNeg,Int.reduceAdd,Int.reduceSub,Eff.av,Eff.cells,Eff.cellsD,s1,s2,s3,s4]
  refine finv rfl ?_ _
  rw [← hpost]
  exact ⟨rfl, rfl⟩
end Go.Proofs.YtfiflailjbmlpaaGreatDoor
set_option maxRecDepth 100000
set_option linter.unusedVariables false
set_option linter.unusedSimpArgs false
namespace Go.Proofs.YtfiflailjbmlpaaGreatDoor
open Go.AM
noncomputable def Pd.appA (p : Pd) (e : Eff) : Pd × Int := if p.chk = 0 then p.app e else (p0, 70)
theorem appA_ok {p : Pd} (h : p.ok) (e : Eff) : p.appA e = p.app e := if_pos (Pd.chk_ok h)
theorem appA_no {p : Pd} (h : ¬ p.ok) (e : Eff) : p.appA e = (p0, 70) := if_neg (by rw [Pd.chk_no h]; decide)
theorem PApply_c (p : Pd) (e : Eff) (he : I64 e.pos) : ACalls Tryz.prog 33 [p.av, e.av] [] (fun o H => o = .ret (.tuple [(p.appA e).1.av, iv (p.appA e).2]) ∧ H = []) := by
  refine ACalls.up ?_
  refine ACalls.intro (cs := []) (n := 31) Tryz.func33 rfl rfl rfl (by kernel_rfl) rfl ?_
  generalize hpost : (fun (o : Out) (H : Heap) => o = Out.ret (.tuple [(p.appA e).1.av, iv (p.appA e).2]) ∧ H = []) = post
  have finN : ∀ n H, p.appA e = (p0, n) → Up 0 post (.ret (.tuple [.agg pdN, iv n])) H := fun n H h => .le (.ret (.tuple (.cons pdN_le (.cons (.refl _) .nil)))) (LeH.refl _) (finv rfl (by rw [← hpost, h]; exact ⟨rfl, rfl⟩) H)
  simp only [go_sem,Nat.reduceAdd,Nat.reduceSub,Nat.reduceMul,Nat.reduceEqDiff,Nat.reduceLeDiff,Nat.reduceLT,↓reduceIte,Int.reduceToNat,reduceCtorEq,Int.reduceLT,Int.reduceLE,Int.reduceGT,Int.reduceGE,Int.reduceEq,Int.reduceNe,Int.reduceNeg,Int.reduceAdd,Int.reduceSub,Pd.av,Eff.av,Eff.cells,Eff.cellsD]
  refine rK_use (enters_of Tryz.func25 rfl (by decide)) (ACalls.pure_use (pcheck_c p) rfl rfl) ?_
  by_cases h : p.ok
  rotate_left
  · rw [Pd.chk_no h]
    simp only [go_sem,Nat.reduceAdd,Nat.reduceSub,Nat.reduceMul,Nat.reduceEqDiff,Nat.reduceLeDiff,Nat.reduceLT,↓reduceIte,Int.reduceToNat,reduceCtorEq,Int.reduceLT,Int.reduceLE,Int.reduceGT,Int.reduceGE,Int.reduceEq,Int.reduceNe,Int.reduceNeg,Int.reduceAdd,Int.reduceSub]
    exact finN 70 _ (appA_no h e)
  rw [appA_ok h, Pd.app] at finN
  rw [appA_ok h, Pd.app] at hpost
  rw [Pd.chk_ok h]
  simp only [go_sem,Nat.reduceAdd,Nat.reduceSub,Nat.reduceMul,Nat.reduceEqDiff,Nat.reduceLeDiff,Nat.reduceLT,↓reduceIte,Int.reduceToNat,reduceCtorEq,Int.reduceLT,Int.reduceLE,Int.reduceGT,Int.reduceGE,Int.reduceEq,Int.reduceNe,Int.reduceNeg,Int.reduceAdd,Int.reduceSub]
  refine rK_use (enters_of Tryz.func34 rfl (by decide)) (ACalls.pure_use (Apply_c p.s e he) rfl rfl) ?_
  generalize hR : applyR p.s e = R at *
  rcases Decidable.em (R.2 = 0) with r0 | r0
  rotate_left
  · rw [if_neg r0] at finN
    simp only [go_sem,Nat.reduceAdd,Nat.reduceSub,Nat.reduceMul,Nat.reduceEqDiff,Nat.reduceLeDiff,Nat.reduceLT,↓reduceIte,Int.reduceToNat,reduceCtorEq,Int.reduceLT,Int.reduceLE,Int.reduceGT,Int.reduceGE,Int.reduceEq,Int.reduceNe,Int.reduceNeg,Int.reduceAdd,Int.reduceSub,Sp.av,eq_false r0]
    exact finN R.2 _ rfl
  rw [if_pos r0] at hpost
  simp only [go_sem,Nat.reduceAdd,Nat.reduceSub,Nat.reduceMul,Nat.reduceEqDiff,Nat.reduceLeDiff,Nat.reduceLT,↓reduceIte,Int.reduceToNat,reduceCtorEq,Int.reduceLT,Int.reduceLE,Int.reduceGT,Int.reduceGE,Int.reduceEq,Int.reduceNe,Int.reduceNeg,Int.reduceAdd,Int.reduceSub,Sp.av,eq_true r0]
  refine draw [.rd 0 1, .qu 0 0, .qu 0 0, .mn 0, .qu 1 1, .mn 1, .qu 2 2] (by kernel_rfl) (by kernel_rfl) ?_
  simp only [go_sem,Nat.reduceAdd,Nat.reduceSub,Nat.reduceMul,Nat.reduceEqDiff,Nat.reduceLeDiff,Nat.reduceLT,↓reduceIte,Int.reduceToNat,reduceCtorEq,Int.reduceLT,Int.reduceLE,Int.reduceGT,Int.reduceGE,Int.reduceEq,Int.reduceNe,Int.reduceNeg,Int.reduceAdd,Int.reduceSub]
  refine dM_call (enters_of Tryz.func70 rfl (by decide)) (ACalls.fresh (v' := .sl 4 0 p.l.length none) (cloneP_f p.l false (by have := h.len; omega)) rfl (blt0 (rp_lt0 _)) rfl) ?_
  simp only [go_sem,Nat.reduceAdd,Nat.reduceSub,Nat.reduceMul,Nat.reduceEqDiff,Nat.reduceLeDiff,Nat.reduceLT,↓reduceIte,Int.reduceToNat,reduceCtorEq,Int.reduceLT,Int.reduceLE,Int.reduceGT,Int.reduceGE,Int.reduceEq,Int.reduceNe,Int.reduceNeg,Int.reduceAdd,Int.reduceSub]
  refine up_one 4 3 (p.l.map rp) rfl (rp_lt0 _) (by simp [Out.fzOk, AV.fzOk, fzOkL]) (by simp [Out.fz, AV.fz, fzL, Out.lt, AV.lt, ltL]) ?_
  rw [← hpost]
  have e4 : (p.l.map rp).take p.l.length = p.l.map rp := List.take_of_length_le (by simp)
  simp [Out.fz, AV.fz, fzL, e4, Pd.av]
noncomputable def Pd.rebA (p : Pd) (s : Sp) : Pd × Int := if p.chk = 0 then p.reb s else (p0, 70)
theorem rebA_ok {p : Pd} (h : p.ok) (s : Sp) : p.rebA s = p.reb s := if_pos (Pd.chk_ok h)
theorem rebA_no {p : Pd} (h : ¬ p.ok) (s : Sp) : p.rebA s = (p0, 70) := if_neg (by rw [Pd.chk_no h]; decide)
def rebL (s : Sp) (l : List Pt) (i : Nat) : List Pt := (l.take i).map (Pt.reb s) ++ l.drop i
theorem rebL_len (s : Sp) (l : List Pt) (i : Nat) : (rebL s l i).length = l.length := by simp [rebL]; omega
theorem rebL_at {s : Sp} {l : List Pt} {i : Nat} {x : Pt} (hx : l[i]? = some x) : (rebL s l i)[i]? = some x := by
  have hi := (List.getElem?_eq_some_iff.1 hx).1
  rw [rebL, List.getElem?_append_right (by simp; omega)]
  simp [show min i l.length = i by omega, hx]
theorem rebL_set {s : Sp} {l : List Pt} {i : Nat} {x : Pt} (hx : l[i]? = some x) : (rebL s l i).set i (x.reb s) = rebL s l (i + 1) := by
  have hi := (List.getElem?_eq_some_iff.1 hx).1
  have hl : ((l.take i).map (Pt.reb s)).length = i := by simp; omega
  rw [rebL, List.set_append_right _ _ (by rw [hl]; exact Nat.le_refl _), hl, Nat.sub_self, drop_at hx, List.set_cons_zero, rebL, List.take_add_one, hx, List.map_append]
  simp
theorem rebL_all (s : Sp) (l : List Pt) : rebL s l l.length = l.map (Pt.reb s) := by simp [rebL]
theorem Rebase_c (p : Pd) (s : Sp) : ACalls Tryz.prog 30 [p.av, s.av] [] (fun o H => o = .ret (.tuple [(p.rebA s).1.av, iv (p.rebA s).2]) ∧ H = []) := by
  refine ACalls.up ?_
  refine ACalls.intro (cs := []) (n := 77) Tryz.func30 rfl rfl rfl (by kernel_rfl) rfl ?_
  generalize hpost : (fun (o : Out) (H : Heap) => o = Out.ret (.tuple [(p.rebA s).1.av, iv (p.rebA s).2]) ∧ H = []) = post
  have finN : ∀ n H, p.rebA s = (p0, n) → Up 0 post (.ret (.tuple [.agg pdN, iv n])) H := fun n H h => .le (.ret (.tuple (.cons pdN_le (.cons (.refl _) .nil)))) (LeH.refl _) (finv rfl (by rw [← hpost, h]; exact ⟨rfl, rfl⟩) H)
  simp only [go_sem,Nat.reduceAdd,Nat.reduceSub,Nat.reduceMul,Nat.reduceEqDiff,Nat.reduceLeDiff,Nat.reduceLT,↓reduceIte,Int.reduceToNat,reduceCtorEq,Int.reduceLT,Int.reduceLE,Int.reduceGT,Int.reduceGE,Int.reduceEq,Int.reduceNe,Int.reduceNeg,Int.reduceAdd,Int.reduceSub,Pd.av,Sp.av]
  refine rK_use (enters_of Tryz.func25 rfl (by decide)) (ACalls.pure_use (pcheck_c p) rfl rfl) ?_
  by_cases h : p.ok
  rotate_left
  · rw [Pd.chk_no h]
    simp only [go_sem,Nat.reduceAdd,Nat.reduceSub,Nat.reduceMul,Nat.reduceEqDiff,Nat.reduceLeDiff,Nat.reduceLT,↓reduceIte,Int.reduceToNat,reduceCtorEq,Int.reduceLT,Int.reduceLE,Int.reduceGT,Int.reduceGE,Int.reduceEq,Int.reduceNe,Int.reduceNeg,Int.reduceAdd,Int.reduceSub]
    exact finN 70 _ (rebA_no h s)
  rw [rebA_ok h, Pd.reb] at finN hpost
  rw [Pd.chk_ok h]
  simp only [go_sem,Nat.reduceAdd,Nat.reduceSub,Nat.reduceMul,Nat.reduceEqDiff,Nat.reduceLeDiff,Nat.reduceLT,↓reduceIte,Int.reduceToNat,reduceCtorEq,Int.reduceLT,Int.reduceLE,Int.reduceGT,Int.reduceGE,Int.reduceEq,Int.reduceNe,Int.reduceNeg,Int.reduceAdd,Int.reduceSub]
  refine rK_use (enters_of Tryz.func61 rfl (by decide)) (ACalls.pure_use (mcheck_c s) rfl rfl) ?_
  by_cases hs : s.ok
  rotate_left
  · rw [if_neg hs] at finN
    rw [Sp.chk, if_neg hs]
    simp only [go_sem,Nat.reduceAdd,Nat.reduceSub,Nat.reduceMul,Nat.reduceEqDiff,Nat.reduceLeDiff,Nat.reduceLT,↓reduceIte,Int.reduceToNat,reduceCtorEq,Int.reduceLT,Int.reduceLE,Int.reduceGT,Int.reduceGE,Int.reduceEq,Int.reduceNe,Int.reduceNeg,Int.reduceAdd,Int.reduceSub]
    exact finN 30 _ rfl
  rw [if_pos hs] at finN hpost
  rw [Sp.chk_ok hs]
  have hl := h.len
  have hbl := byt_len hs
  have hps := hs.p32
  simp only [go_sem,Nat.reduceAdd,Nat.reduceSub,Nat.reduceMul,Nat.reduceEqDiff,Nat.reduceLeDiff,Nat.reduceLT,↓reduceIte,Int.reduceToNat,reduceCtorEq,Int.reduceLT,Int.reduceLE,Int.reduceGT,Int.reduceGE,Int.reduceEq,Int.reduceNe,Int.reduceNeg,Int.reduceAdd,Int.reduceSub]
  refine rK_use (enters_of Tryz.func58 rfl (by decide)) (pcopied_u ⟨s, p.l⟩ ⟨by simp; omega, by simp; omega, by simp; omega⟩ _) ?_
  simp only [go_sem,Nat.reduceAdd,Nat.reduceSub,Nat.reduceMul,Nat.reduceEqDiff,Nat.reduceLeDiff,Nat.reduceLT,↓reduceIte,Int.reduceToNat,reduceCtorEq,Int.reduceLT,Int.reduceLE,Int.reduceGT,Int.reduceGE,Int.reduceEq,Int.reduceNe,Int.reduceNeg,Int.reduceAdd,Int.reduceSub]
  refine loop_fam (fun i : Nat => ((((((Ch.nil.put 3 (.ptr 1 0 0)).put 4 (.ptr 2 0 0)).put 8 (.ptr 5 0 0)).put 33 (.sl 4 0 p.l.length none)).put 34 (iv p.l.length)).put 35 (iv i)))
    (fun i => [.rows 3 [[.view false 1 (p.s.perm.map r1), .view false 1 (p.s.byt.map rb), .view false 3 (p.l.map rp)]], .rows 2 [[.view false 1 (s.perm.map r1), .view false 1 (s.byt.map rb)]], .rows 3 [pdN], .rows 1 (s.byt.map rb), .rows 3 ((rebL s p.l i).map rp), .rows 3 [[.view false 1 (s.perm.map r1), .sl 3 0 s.byt.length none, .sl 4 0 p.l.length none]]])
    (fun i => p.l.length - i) (fun i => i ≤ p.l.length ∧ ∀ x ∈ p.l.take i, (stand s x.at_).e = 0) 0 (by kernel_rfl) ⟨Nat.zero_le _, by simp⟩ (Wk.slots' rfl (by simp [wkS, Ch.get])) ?_
  rintro i ⟨hi, ha⟩ K hK
  simp only [go_sem,Nat.reduceAdd,Nat.reduceSub,Nat.reduceMul,Nat.reduceEqDiff,Nat.reduceLeDiff,Nat.reduceLT,↓reduceIte,Int.reduceToNat,reduceCtorEq,Int.reduceLT,Int.reduceLE,Int.reduceGT,Int.reduceGE,Int.reduceEq,Int.reduceNe,Int.reduceNeg,Int.reduceAdd,Int.reduceSub,pdN]
  refine condD_dec (fun hc => ?_) (fun hc => ?_)
  · obtain ⟨x, hx⟩ := at_lt (l := p.l) (i := i) (by omega)
    have hmem := List.mem_of_getElem? hx
    have e1 : iw .i64 ((i : Int) + 1) = ((i + 1 : Nat) : Int) := by rw [iw64] <;> omega
    have g1 : (0 : Int) ≤ i ∧ (i : Int) < p.l.length := ⟨by omega, by omega⟩
    have g2 : i < p.l.length := by omega
    have hxl := rebL_at (s := s) hx
    have hrl := rebL_len s p.l i
    simp only [go_sem,Nat.reduceAdd,Nat.reduceSub,Nat.reduceMul,Nat.reduceEqDiff,Nat.reduceLeDiff,Nat.reduceLT,↓reduceIte,Int.reduceToNat,reduceCtorEq,Int.reduceLT,Int.reduceLE,Int.reduceGT,Int.reduceGE,Int.reduceEq,Int.reduceNe,Int.reduceNeg,Int.reduceAdd,Int.reduceSub,g1,g2,hxl,hrl,List.length_map,List.getElem?_map]
    refine rK_use (enters_of Tryz.func49 rfl (by decide)) (ACalls.pure_use (standing_c s hs x.at_) rfl (by simp [sitC, Ins.cells, AV.lt, ltL])) ?_
    rcases Decidable.em ((stand s x.at_).e = 0) with hst | hst
    rotate_left
    · rw [if_neg (fun h => hst (of_decide_eq_true (List.all_eq_true.1 h x hmem)))] at finN
      simp only [go_sem,Nat.reduceAdd,Nat.reduceSub,Nat.reduceMul,Nat.reduceEqDiff,Nat.reduceLeDiff,Nat.reduceLT,↓reduceIte,Int.reduceToNat,reduceCtorEq,Int.reduceLT,Int.reduceLE,Int.reduceGT,Int.reduceGE,Int.reduceEq,Int.reduceNe,Int.reduceNeg,Int.reduceAdd,Int.reduceSub,decide_eq_false hst,sitC,Ins.cells]
      exact finN 71 _ rfl
    obtain ⟨b0, b1, _, d, _, _, hd⟩ := stand_at (h.i64 hmem) (by rw [hst]; decide)
    have g3 : (0 : Int) ≤ x.at_ ∧ x.at_ < (s.byt.length : Int) := ⟨b0, b1⟩
    have hset : ((rebL s p.l i).map rp).set i [iv x.at_, .int .u8 (d.toNat : Int), iv x.n] = (rebL s p.l (i + 1)).map rp := by
      rw [← rebL_set hx, List.map_set, Pt.reb, hd, Option.getD_some]
    simp only [go_sem,Nat.reduceAdd,Nat.reduceSub,Nat.reduceMul,Nat.reduceEqDiff,Nat.reduceLeDiff,Nat.reduceLT,↓reduceIte,Int.reduceToNat,reduceCtorEq,Int.reduceLT,Int.reduceLE,Int.reduceGT,Int.reduceGE,Int.reduceEq,Int.reduceNe,Int.reduceNeg,Int.reduceAdd,Int.reduceSub,decide_eq_true hst,sitC,Ins.cells]
    refine draw [.qu 0 0, .qu 0 0, .qu 0 0, .qu 0 0, .qu 0 0, .qu 0 0, .qu 0 0, .qu 0 0, .qu 0 0, .qu 0 0, .qu 0 0, .mn 0] (by kernel_rfl) (by kernel_rfl) ?_
    simp only [go_sem,Nat.reduceAdd,Nat.reduceSub,Nat.reduceMul,Nat.reduceEqDiff,Nat.reduceLeDiff,Nat.reduceLT,↓reduceIte,Int.reduceToNat,reduceCtorEq,Int.reduceLT,Int.reduceLE,Int.reduceGT,Int.reduceGE,Int.reduceEq,Int.reduceNe,Int.reduceNeg,Int.reduceAdd,Int.reduceSub,g1,g2,g3,hxl,hrl,hd,hset,List.length_map,List.getElem?_map,e1]
    refine hK (i + 1) _ _ ⟨by omega, fun y hy => ?_⟩ (by omega) (Wk.drop (m := 6) (by simp [wkS, Ch.get]) (Nat.zero_le _) (by simp) (by simp [chLt, AV.lt]) rfl (by simp only [List.forall_mem_cons]; exact ⟨by simp [Blk.lt, ltL, AV.lt], by simp [Blk.lt, ltL, AV.lt], by simp [Blk.lt, ltL, AV.lt, pdN], blt0 (rb_lt0 _), blt0 (rp_lt0 _), by simp [Blk.lt, ltL, AV.lt], by simp⟩))
    rw [List.take_add_one, hx, List.mem_append] at hy
    rcases hy with hy | hy
    · exact ha y hy
    · simp at hy; subst hy; exact hst
  · simp only [go_sem,Nat.reduceAdd,Nat.reduceSub,Nat.reduceMul,Nat.reduceEqDiff,Nat.reduceLeDiff,Nat.reduceLT,↓reduceIte,Int.reduceToNat,reduceCtorEq,Int.reduceLT,Int.reduceLE,Int.reduceGT,Int.reduceGE,Int.reduceEq,Int.reduceNe,Int.reduceNeg,Int.reduceAdd,Int.reduceSub]
    have hin : i = p.l.length := by omega
    subst hin
    rw [List.take_length] at ha
    rw [rebL_all]
    rw [if_pos (List.all_eq_true.2 fun x hx => decide_eq_true (ha x hx))] at hpost
    obtain ⟨M, hM⟩ : ∃ M, M = p.l.map (Pt.reb s) := ⟨_, rfl⟩
    have hMl : M.length = p.l.length := by rw [hM, List.length_map]
    have hMb : ∀ y ∈ M, 0 ≤ y.at_ ∧ y.at_ < s.byt.length := fun y hy => by
      rw [hM, List.mem_map] at hy
      obtain ⟨x, hx, rfl⟩ := hy
      have := stand_at (h.i64 hx) (by rw [ha x hx]; decide)
      exact ⟨this.1, this.2.1⟩
    rw [← hM] at hpost ⊢
    refine loop_fam (fun i : Nat => (((((Ch.nil.put 4 (.ptr 2 0 0)).put 8 (.ptr 5 0 0)).put 63 (.sl 4 0 p.l.length none)).put 64 (iv p.l.length)).put 65 (iv i)))
      (fun i => [.rows 3 [[.view false 1 (p.s.perm.map r1), .view false 1 (p.s.byt.map rb), .view false 3 (p.l.map rp)]], .rows 2 [[.view false 1 (s.perm.map r1), .view false 1 (s.byt.map rb)]], .rows 3 [pdN], .rows 1 ((putL b204 (M.take i) s).byt.map rb), .rows 3 (M.map rp), .rows 3 [[.view false 1 (s.perm.map r1), .sl 3 0 s.byt.length none, .sl 4 0 p.l.length none]]])
      (fun i => p.l.length - i) (fun i => i ≤ p.l.length) 0 (by kernel_rfl) (Nat.zero_le _) (Wk.slots' rfl (by simp [wkS, Ch.get])) ?_
    rintro i hi2 K2 hK2
    simp only [go_sem,Nat.reduceAdd,Nat.reduceSub,Nat.reduceMul,Nat.reduceEqDiff,Nat.reduceLeDiff,Nat.reduceLT,↓reduceIte,Int.reduceToNat,reduceCtorEq,Int.reduceLT,Int.reduceLE,Int.reduceGT,Int.reduceGE,Int.reduceEq,Int.reduceNe,Int.reduceNeg,Int.reduceAdd,Int.reduceSub,pdN]
    refine condD_dec (fun hc => ?_) (fun hc => ?_)
    · obtain ⟨x, hx⟩ := at_lt (l := M) (i := i) (by omega)
      obtain ⟨b0, b1⟩ := hMb x (List.mem_of_getElem? hx)
      have e1 : iw .i64 ((i : Int) + 1) = ((i + 1 : Nat) : Int) := by rw [iw64] <;> omega
      have g1 : (0 : Int) ≤ i ∧ (i : Int) < p.l.length := ⟨by omega, by omega⟩
      have hl2 : (putL b204 (M.take i) s).byt.length = s.byt.length := putL_len ..
      have g3 : x.at_.toNat < s.byt.length := by omega
      have g4 : i < p.l.length := by omega
      obtain ⟨z, hz⟩ := at_lt (l := (putL b204 (M.take i) s).byt) (i := x.at_.toNat) (by omega)
      have hset : ((putL b204 (M.take i) s).byt.map rb).set x.at_.toNat [.int .u8 204] = (putL b204 (M.take (i + 1)) s).byt.map rb := by
        rw [putL_succ hx, Sp.put, List.map_set]; rfl
      simp only [go_sem,Nat.reduceAdd,Nat.reduceSub,Nat.reduceMul,Nat.reduceEqDiff,Nat.reduceLeDiff,Nat.reduceLT,↓reduceIte,Int.reduceToNat,reduceCtorEq,Int.reduceLT,Int.reduceLE,Int.reduceGT,Int.reduceGE,Int.reduceEq,Int.reduceNe,Int.reduceNeg,Int.reduceAdd,Int.reduceSub,hx,List.getElem?_map,List.length_map,hMl,g1,b0,b1,hl2,g3,g4,hz,hset,e1]
      exact hK2 (i + 1) _ _ (by omega) (by omega) (Wk.drop (m := 6) (by simp [wkS, Ch.get]) (Nat.zero_le _) (by simp) (by simp [chLt, AV.lt]) rfl (by simp only [List.forall_mem_cons]; exact ⟨by simp [Blk.lt, ltL, AV.lt], by simp [Blk.lt, ltL, AV.lt], by simp [Blk.lt, ltL, AV.lt, pdN], blt0 (rb_lt0 _), blt0 (rp_lt0 _), by simp [Blk.lt, ltL, AV.lt], by simp⟩))
    · simp only [go_sem,Nat.reduceAdd,Nat.reduceSub,Nat.reduceMul,Nat.reduceEqDiff,Nat.reduceLeDiff,Nat.reduceLT,↓reduceIte,Int.reduceToNat,reduceCtorEq,Int.reduceLT,Int.reduceLE,Int.reduceGT,Int.reduceGE,Int.reduceEq,Int.reduceNe,Int.reduceNeg,Int.reduceAdd,Int.reduceSub]
      have hin : i = p.l.length := by omega
      subst hin
      rw [List.take_of_length_le (by omega)]
      have hq : mkP s M = ⟨putL b204 M s, M⟩ := rfl
      have hkr : ¬ (4 : Nat) = 3 := by decide
      have t1 : ((putL b204 M s).byt.map rb).take s.byt.length = (putL b204 M s).byt.map rb := List.take_of_length_le (by simp [putL_len])
      have t2 : (M.map rp).take p.l.length = M.map rp := List.take_of_length_le (by simp [hMl])
      refine up_two 3 1 ((putL b204 M s).byt.map rb) 4 3 (M.map rp) (by decide) rfl rfl (rb_lt0 _) (rp_lt0 _) ?_ ?_ ?_ ?_
      · simp [Out.fzOk, AV.fzOk, fzOkL, putL_len]
      · simp [Out.fzOk, Out.fz, AV.fz, fzL, AV.fzOk, fzOkL, hMl]
      · simp [Out.fz, AV.fz, fzL, Out.lt, AV.lt, ltL]
      · simp only [Out.fz, AV.fz, fzL, if_true, if_neg hkr, List.drop_zero, t1, t2]
        rw [← hpost]
        refine ⟨?_, rfl⟩
        rw [Pd.av, mkP, putL_perm]
end Go.Proofs.YtfiflailjbmlpaaGreatDoor
set_option maxRecDepth 100000
set_option linter.unusedVariables false
set_option linter.unusedSimpArgs false
namespace Go.Proofs.YtfiflailjbmlpaaGreatDoor
open Go.AM
theorem ACalls.fresh3 {P : Program} {f : FuncId} {args : List AV} {v v' : AV} {b c d : Blk} {H : Heap} (hc : ACalls P f args [] (fun o H => o = .ret v ∧ H = [b, c, d])) (ha : ltL 0 args = true) (hb : b.lt 0) (hb2 : c.lt 0) (hb3 : d.lt 0) (hv : v.ren (pi [] H.length) = v') : ACalls P f args H (fun o H2 => o = .ret v' ∧ H2 = H ++ [b, c, d]) := by
  refine hc.useE [] v' (H ++ [b, c, d]) List.nodup_nil rfl (by simp) rfl (renL_pure' ha).symm hv ?_
  simp [patch, setMany, bren_lt (m := 0) (fun k hk => absurd hk (Nat.not_lt_zero k)) hb, bren_lt (m := 0) (fun k hk => absurd hk (Nat.not_lt_zero k)) hb2, bren_lt (m := 0) (fun k hk => absurd hk (Nat.not_lt_zero k)) hb3]
theorem rcopy3_c (s : Sp) (h1 : s.perm.length ≤ 1000000) (h2 : s.byt.length ≤ 1000000) :
    ACalls Tryz.prog 78 [s.av] [] (fun o H => o = .ret (.agg [.sl 0 0 s.perm.length none, .sl 1 0 s.byt.length none]) ∧ H = [.rows 1 (s.perm.map r1), .rows 1 (s.byt.map rb)]) := by
  refine ACalls.up ?_
  refine ACalls.intro (cs := []) (n := 17) Tryz.func78 rfl rfl rfl (by kernel_rfl) rfl ?_
  generalize hpost : (fun (o : Out) (H : Heap) => o = Out.ret (.agg [.sl 0 0 s.perm.length none, .sl 1 0 s.byt.length none]) ∧ H = [.rows 1 (s.perm.map r1), .rows 1 (s.byt.map rb)]) = post
  have e1 : s.perm.length ≤ 68719476736 := by omega
  have e2 : s.byt.length ≤ 68719476736 := by omega
  simp only [go_sem,Nat.reduceAdd,Nat.reduceSub,Nat.reduceMul,Nat.reduceEqDiff,Nat.reduceLeDiff,Nat.reduceLT,↓reduceIte,Int.reduceToNat,reduceCtorEq,Int.reduceLT,Int.reduceLE,Int.reduceGT,Int.reduceGE,Int.reduceEq,Int.reduceNe,Int.reduceNeg,Int.reduceAdd,Int.reduceSub,Sp.av,List.length_map,e1,e2,and_false]
  refine .pick (o' := .ret (.agg [.sl 0 0 s.perm.length none, .sl 1 0 s.byt.length none])) (H' := [.rows 1 (s.perm.map r1), .rows 1 (s.byt.map rb)]) [3, 4] (by simp) rfl ?_ rfl (.done (by rw [← hpost]; exact ⟨rfl, rfl⟩))
  simp [Blk.ren, Function.comp, AV.ren]
theorem rcopy3_u (s : Sp) (h1 : s.perm.length ≤ 1000000) (h2 : s.byt.length ≤ 1000000) (H : Heap) :
    ACalls Tryz.prog 78 [s.av] H (fun o H2 => o = .ret (.agg [.sl H.length 0 s.perm.length none, .sl (H.length + 1) 0 s.byt.length none]) ∧ H2 = H ++ [.rows 1 (s.perm.map r1), .rows 1 (s.byt.map rb)]) :=
  ACalls.fresh2 (rcopy3_c s h1 h2) rfl (blt0 (r1_lt0 _)) (blt0 (rb_lt0 _)) (by simp [AV.ren, renL, pi])
theorem rcopy_c (p : Pd) (h : p.fit) :
    ACalls Tryz.prog 60 [p.av] [] (fun o H => o = .ret (.agg [.sl 0 0 p.s.perm.length none, .sl 1 0 p.s.byt.length none, .sl 2 0 p.l.length none]) ∧ H = [.rows 1 (p.s.perm.map r1), .rows 1 (p.s.byt.map rb), .rows 3 (p.l.map rp)]) := by
  refine ACalls.up ?_
  refine ACalls.intro (cs := []) (n := 15) Tryz.func60 rfl rfl rfl (by kernel_rfl) rfl ?_
  generalize hpost : (fun (o : Out) (H : Heap) => o = Out.ret (.agg [.sl 0 0 p.s.perm.length none, .sl 1 0 p.s.byt.length none, .sl 2 0 p.l.length none]) ∧ H = [.rows 1 (p.s.perm.map r1), .rows 1 (p.s.byt.map rb), .rows 3 (p.l.map rp)]) = post
  have h1 := h.h1
  have h2 := h.h2
  have h3 := h.h3
  have e3 : p.l.length ≤ 68719476736 := by omega
  simp only [go_sem,Nat.reduceAdd,Nat.reduceSub,Nat.reduceMul,Nat.reduceEqDiff,Nat.reduceLeDiff,Nat.reduceLT,↓reduceIte,Int.reduceToNat,reduceCtorEq,Int.reduceLT,Int.reduceLE,Int.reduceGT,Int.reduceGE,Int.reduceEq,Int.reduceNe,Int.reduceNeg,Int.reduceAdd,Int.reduceSub,Pd.av]
  refine rK_use (enters_of Tryz.func78 rfl (by decide)) (rcopy3_u p.s (by omega) (by omega) _) ?_
  simp only [go_sem,Nat.reduceAdd,Nat.reduceSub,Nat.reduceMul,Nat.reduceEqDiff,Nat.reduceLeDiff,Nat.reduceLT,↓reduceIte,Int.reduceToNat,reduceCtorEq,Int.reduceLT,Int.reduceLE,Int.reduceGT,Int.reduceGE,Int.reduceEq,Int.reduceNe,Int.reduceNeg,Int.reduceAdd,Int.reduceSub,List.length_map,e3,and_false]
  refine .pick (o' := .ret (.agg [.sl 0 0 p.s.perm.length none, .sl 1 0 p.s.byt.length none, .sl 2 0 p.l.length none])) (H' := [.rows 1 (p.s.perm.map r1), .rows 1 (p.s.byt.map rb), .rows 3 (p.l.map rp)]) [2, 3, 5] (by simp) rfl ?_ rfl (.done (by rw [← hpost]; exact ⟨rfl, rfl⟩))
  simp [Blk.ren, Function.comp, AV.ren]
theorem rcopy_u (p : Pd) (h : p.fit) (H : Heap) :
    ACalls Tryz.prog 60 [p.av] H (fun o H2 => o = .ret (.agg [.sl H.length 0 p.s.perm.length none, .sl (H.length + 1) 0 p.s.byt.length none, .sl (H.length + 2) 0 p.l.length none]) ∧ H2 = H ++ [.rows 1 (p.s.perm.map r1), .rows 1 (p.s.byt.map rb), .rows 3 (p.l.map rp)]) :=
  ACalls.fresh3 (rcopy_c p h) rfl (blt0 (r1_lt0 _)) (blt0 (rb_lt0 _)) (blt0 (rp_lt0 _)) (by simp [AV.ren, renL, pi])
theorem stands_c (s : Sp) (hs : s.ok) (a : Int) : ACalls Tryz.prog 45 [s.av, iv a] [] (fun o H => o = .ret (stand s a).rav ∧ H = []) := by
  refine ACalls.up ?_
  refine ACalls.intro (cs := []) (n := 9) Tryz.func45 rfl rfl rfl (by kernel_rfl) rfl ?_
  generalize hpost : (fun (o : Out) (H : Heap) => o = Out.ret (stand s a).rav ∧ H = []) = post
  simp only [go_sem,Nat.reduceAdd,Nat.reduceSub,Nat.reduceMul,Nat.reduceEqDiff,Nat.reduceLeDiff,Nat.reduceLT,↓reduceIte,Int.reduceToNat,reduceCtorEq,Int.reduceLT,Int.reduceLE,Int.reduceGT,Int.reduceGE,Int.reduceEq,Int.reduceNe,Int.reduceNeg,Int.reduceAdd,Int.reduceSub,Sp.av]
  refine rK_use (enters_of Tryz.func81 rfl (by decide)) (ACalls.pure_use (rfetched_c s hs a 12 (by decide)) rfl (by simp [AV.lt])) ?_
  have hbl := s.fet_len a 12 0
  have hst : stand s a = dec (s.fet a 12 0) := rfl
  generalize hb : s.fet a 12 0 = b at *
  simp only [go_sem,Nat.reduceAdd,Nat.reduceSub,Nat.reduceMul,Nat.reduceEqDiff,Nat.reduceLeDiff,Nat.reduceLT,↓reduceIte,Int.reduceToNat,reduceCtorEq,Int.reduceLT,Int.reduceLE,Int.reduceGT,Int.reduceGE,Int.reduceEq,Int.reduceNe,Int.reduceNeg,Int.reduceAdd,Int.reduceSub]
  refine rK_use (enters_of Tryz.func82 rfl (by decide)) (ACalls.pure_use (rdecode_c b (by omega)) rfl (by simp [Dec.rav, AV.lt, ltL, Ins.av, Ins.cells])) ?_
  simp only [go_sem,Nat.reduceAdd,Nat.reduceSub,Nat.reduceMul,Nat.reduceEqDiff,Nat.reduceLeDiff,Nat.reduceLT,↓reduceIte,Int.reduceToNat,reduceCtorEq,Int.reduceLT,Int.reduceLE,Int.reduceGT,Int.reduceGE,Int.reduceEq,Int.reduceNe,Int.reduceNeg,Int.reduceAdd,Int.reduceSub,Dec.rav,Ins.av,Ins.cells]
  refine finv (by simp [AV.lt, ltL]) ?_ _
  rw [← hpost, hst]
  exact ⟨rfl, rfl⟩
theorem cleaned_c (p : Pd) (h : p.fit) (hb : ∀ y ∈ p.l, 0 ≤ y.at_ ∧ y.at_ < p.s.byt.length) : ACalls Tryz.prog 46 [p.av] [] (fun o H => o = .ret p.clean.av ∧ H = []) := by
  refine ACalls.up ?_
  refine ACalls.intro (cs := []) (n := 31) Tryz.func46 rfl rfl rfl (by kernel_rfl) rfl ?_
  generalize hpost : (fun (o : Out) (H : Heap) => o = Out.ret p.clean.av ∧ H = []) = post
  have h1 := h.h1
  have h2 := h.h2
  have h3 := h.h3
  simp only [go_sem,Nat.reduceAdd,Nat.reduceSub,Nat.reduceMul,Nat.reduceEqDiff,Nat.reduceLeDiff,Nat.reduceLT,↓reduceIte,Int.reduceToNat,reduceCtorEq,Int.reduceLT,Int.reduceLE,Int.reduceGT,Int.reduceGE,Int.reduceEq,Int.reduceNe,Int.reduceNeg,Int.reduceAdd,Int.reduceSub,Pd.av]
  refine rK_use (enters_of Tryz.func78 rfl (by decide)) (rcopy3_u p.s (by omega) (by omega) _) ?_
  simp only [go_sem,Nat.reduceAdd,Nat.reduceSub,Nat.reduceMul,Nat.reduceEqDiff,Nat.reduceLeDiff,Nat.reduceLT,↓reduceIte,Int.reduceToNat,reduceCtorEq,Int.reduceLT,Int.reduceLE,Int.reduceGT,Int.reduceGE,Int.reduceEq,Int.reduceNe,Int.reduceNeg,Int.reduceAdd,Int.reduceSub]
  refine loop_fam (fun i : Nat => ((((Ch.nil.put 1 (.ptr 0 0 0)).put 2 (.ptr 1 0 0)).put 3 (.ptr 4 0 0)).put 4 (iv i)))
    (fun i => [.rows 3 [[.view false 1 (p.s.perm.map r1), .view false 1 (p.s.byt.map rb), .view false 3 (p.l.map rp)]], .rows 2 [[.view true 0 [], .view true 0 []]], .rows 1 (p.s.perm.map r1), .rows 1 ((putL Pt.old (p.l.take i) p.s).byt.map rb), .rows 2 [[.sl 2 0 p.s.perm.length none, .sl 3 0 p.s.byt.length none]]])
    (fun i => p.l.length - i) (fun i => i ≤ p.l.length) 0 (by kernel_rfl) (Nat.zero_le _) (Wk.slots' rfl (by simp [wkS, Ch.get])) ?_
  rintro i hi K hK
  simp only [go_sem,Nat.reduceAdd,Nat.reduceSub,Nat.reduceMul,Nat.reduceEqDiff,Nat.reduceLeDiff,Nat.reduceLT,↓reduceIte,Int.reduceToNat,reduceCtorEq,Int.reduceLT,Int.reduceLE,Int.reduceGT,Int.reduceGE,Int.reduceEq,Int.reduceNe,Int.reduceNeg,Int.reduceAdd,Int.reduceSub,List.length_map]
  refine condD_dec (fun hc => ?_) (fun hc => ?_)
  · obtain ⟨x, hx⟩ := at_lt (l := p.l) (i := i) (by omega)
    obtain ⟨b0, b1⟩ := hb x (List.mem_of_getElem? hx)
    have e1 : iw .i64 ((i : Int) + 1) = ((i + 1 : Nat) : Int) := by rw [iw64] <;> omega
    have g1 : (0 : Int) ≤ i ∧ (i : Int) < p.l.length := ⟨by omega, by omega⟩
    have hl : (putL Pt.old (p.l.take i) p.s).byt.length = p.s.byt.length := putL_len ..
    have g3 : x.at_.toNat < p.s.byt.length := by omega
    obtain ⟨z, hz⟩ := at_lt (l := (putL Pt.old (p.l.take i) p.s).byt) (i := x.at_.toNat) (by omega)
    have hset : ((putL Pt.old (p.l.take i) p.s).byt.map rb).set x.at_.toNat [bv x.old] = (putL Pt.old (p.l.take (i + 1)) p.s).byt.map rb := by
      rw [putL_succ hx, Sp.put, List.map_set]
    simp only [go_sem,Nat.reduceAdd,Nat.reduceSub,Nat.reduceMul,Nat.reduceEqDiff,Nat.reduceLeDiff,Nat.reduceLT,↓reduceIte,Int.reduceToNat,reduceCtorEq,Int.reduceLT,Int.reduceLE,Int.reduceGT,Int.reduceGE,Int.reduceEq,Int.reduceNe,Int.reduceNeg,Int.reduceAdd,Int.reduceSub]
    refine draw [.qu 0 0, .qu 0 0, .qu 0 0, .qu 0 0, .qu 0 0, .qu 0 0, .qu 0 0, .qu 0 0, .qu 0 0, .qu 0 0, .qu 0 0, .qu 0 0, .qu 0 0, .qu 0 0, .qu 0 0, .mn 0] (by kernel_rfl) (by kernel_rfl) ?_
    simp only [go_sem,Nat.reduceAdd,Nat.reduceSub,Nat.reduceMul,Nat.reduceEqDiff,Nat.reduceLeDiff,Nat.reduceLT,↓reduceIte,Int.reduceToNat,reduceCtorEq,Int.reduceLT,Int.reduceLE,Int.reduceGT,Int.reduceGE,Int.reduceEq,Int.reduceNe,Int.reduceNeg,Int.reduceAdd,Int.reduceSub,hx,List.getElem?_map,List.length_map,g1,b0,b1,hl,g3,hz,hset,e1]
    exact hK (i + 1) _ _ (by omega) (by omega) (Wk.slots' rfl (by simp [wkS, Ch.get]))
  · simp only [go_sem,Nat.reduceAdd,Nat.reduceSub,Nat.reduceMul,Nat.reduceEqDiff,Nat.reduceLeDiff,Nat.reduceLT,↓reduceIte,Int.reduceToNat,reduceCtorEq,Int.reduceLT,Int.reduceLE,Int.reduceGT,Int.reduceGE,Int.reduceEq,Int.reduceNe,Int.reduceNeg,Int.reduceAdd,Int.reduceSub]
    have : i = p.l.length := by omega
    subst this
    rw [List.take_length]
    refine up_two 2 1 (p.s.perm.map r1) 3 1 (p.clean.byt.map rb) (by decide) rfl rfl (r1_lt0 _) (rb_lt0 _) ?_ ?_ ?_ ?_
    · simp [Out.fzOk, AV.fzOk, fzOkL]
    · simp [Out.fzOk, Out.fz, AV.fz, fzL, AV.fzOk, fzOkL, Pd.clean, putL_len]
    · simp [Out.fz, AV.fz, fzL, Out.lt, AV.lt, ltL]
    · rw [← hpost]
      have hl : p.clean.byt.length = p.s.byt.length := putL_len ..
      have e4 : (p.clean.byt.map rb).take p.s.byt.length = p.clean.byt.map rb := List.take_of_length_le (by simp [hl])
      have e5 : (p.s.perm.map r1).take p.s.perm.length = p.s.perm.map r1 := List.take_of_length_le (by simp)
      simp only [Out.fz, AV.fz, fzL, if_true, if_false, Nat.reduceEqDiff, reduceIte, List.drop_zero, e4, e5]
      refine ⟨?_, trivial⟩
      rw [Sp.av, show p.clean.perm = p.s.perm from putL_perm ..]
end Go.Proofs.YtfiflailjbmlpaaGreatDoor
set_option maxRecDepth 100000
set_option linter.unusedVariables false
set_option linter.unusedSimpArgs false
namespace Go.Proofs.YtfiflailjbmlpaaGreatDoor
open Go.AM
theorem rpcheck_c (p : Pd) : ACalls Tryz.prog 26 [p.av] [] (fun o H => o = .ret (iv p.chk) ∧ H = []) := by
  refine ACalls.up ?_
  refine ACalls.intro (cs := []) (n := 90) Tryz.func26 rfl rfl rfl (by kernel_rfl) rfl ?_
  generalize hpost : (fun (o : Out) (H : Heap) => o = Out.ret (iv p.chk) ∧ H = []) = post
  have fin : ∀ n H, n = p.chk → Up 0 post (.ret (iv n)) H := fun n H h => finv rfl (by rw [← hpost, ← h]; exact ⟨rfl, rfl⟩) H
  simp only [go_sem,Nat.reduceAdd,Nat.reduceSub,Nat.reduceMul,Nat.reduceEqDiff,Nat.reduceLeDiff,Nat.reduceLT,↓reduceIte,Int.reduceToNat,reduceCtorEq,Int.reduceLT,Int.reduceLE,Int.reduceGT,Int.reduceGE,Int.reduceEq,Int.reduceNe,Int.reduceNeg,Int.reduceAdd,Int.reduceSub,Pd.av]
  refine rK_use (enters_of Tryz.func64 rfl (by decide)) (ACalls.pure_use (rcheck_c p.s) rfl rfl) ?_
  by_cases hs : p.s.ok
  rotate_left
  · rw [Sp.chk, if_neg hs]
    simp only [go_sem,Nat.reduceAdd,Nat.reduceSub,Nat.reduceMul,Nat.reduceEqDiff,Nat.reduceLeDiff,Nat.reduceLT,↓reduceIte,Int.reduceToNat,reduceCtorEq,Int.reduceLT,Int.reduceLE,Int.reduceGT,Int.reduceGE,Int.reduceEq,Int.reduceNe,Int.reduceNeg,Int.reduceAdd,Int.reduceSub]
    exact fin 70 _ (Pd.chk_no fun h => hs h.sok).symm
  rw [Sp.chk_ok hs]
  simp only [go_sem,Nat.reduceAdd,Nat.reduceSub,Nat.reduceMul,Nat.reduceEqDiff,Nat.reduceLeDiff,Nat.reduceLT,↓reduceIte,Int.reduceToNat,reduceCtorEq,Int.reduceLT,Int.reduceLE,Int.reduceGT,Int.reduceGE,Int.reduceEq,Int.reduceNe,Int.reduceNeg,Int.reduceAdd,Int.reduceSub,List.length_map]
  refine condD_dec (fun hl => ?_) (fun hl => ?_)
  · simp only [go_sem,Nat.reduceAdd,Nat.reduceSub,Nat.reduceMul,Nat.reduceEqDiff,Nat.reduceLeDiff,Nat.reduceLT,↓reduceIte,Int.reduceToNat,reduceCtorEq,Int.reduceLT,Int.reduceLE,Int.reduceGT,Int.reduceGE,Int.reduceEq,Int.reduceNe,Int.reduceNeg,Int.reduceAdd,Int.reduceSub]
    exact fin 70 _ (Pd.chk_no fun h => by have := h.len; omega).symm
  simp only [go_sem,Nat.reduceAdd,Nat.reduceSub,Nat.reduceMul,Nat.reduceEqDiff,Nat.reduceLeDiff,Nat.reduceLT,↓reduceIte,Int.reduceToNat,reduceCtorEq,Int.reduceLT,Int.reduceLE,Int.reduceGT,Int.reduceGE,Int.reduceEq,Int.reduceNe,Int.reduceNeg,Int.reduceAdd,Int.reduceSub,List.length_map]
  have hbl := byt_len hs
  refine loop_fam (fun i : Nat => ((Ch.nil.put 1 (.ptr 0 0 0)).put 3 (iv i)))
    (fun _ => [.rows 3 [[.view false 1 (p.s.perm.map r1), .view false 1 (p.s.byt.map rb), .view false 3 (p.l.map rp)]]]) (fun i => p.l.length - i) (fun i => i ≤ p.l.length ∧ ∀ k, k < i → okAt p.s p.l k) 0 (by kernel_rfl) ⟨Nat.zero_le _, fun k hk => absurd hk (Nat.not_lt_zero _)⟩ (Wk.slots' rfl (by simp [wkS, Ch.get])) ?_
  rintro i ⟨hi, ha⟩ K hK
  simp only [go_sem,Nat.reduceAdd,Nat.reduceSub,Nat.reduceMul,Nat.reduceEqDiff,Nat.reduceLeDiff,Nat.reduceLT,↓reduceIte,Int.reduceToNat,reduceCtorEq,Int.reduceLT,Int.reduceLE,Int.reduceGT,Int.reduceGE,Int.reduceEq,Int.reduceNe,Int.reduceNeg,Int.reduceAdd,Int.reduceSub,List.length_map]
  refine condD_dec (fun hc => ?_) (fun hc => ?_)
  · obtain ⟨x, hx⟩ := at_lt (l := p.l) (i := i) (by omega)
    have e1 : iw .i64 ((i : Int) + 1) = ((i + 1 : Nat) : Int) := by rw [iw64] <;> omega
    have g1 : (0 : Int) ≤ i ∧ (i : Int) < p.l.length := ⟨by omega, by omega⟩
    have bad : ¬ okAt p.s p.l i → ¬ p.ok := fun h hp => h ((okAt_all.2 ⟨hp.sor, hp.fits⟩) i (by omega))
    simp only [go_sem,Nat.reduceAdd,Nat.reduceSub,Nat.reduceMul,Nat.reduceEqDiff,Nat.reduceLeDiff,Nat.reduceLT,↓reduceIte,Int.reduceToNat,reduceCtorEq,Int.reduceLT,Int.reduceLE,Int.reduceGT,Int.reduceGE,Int.reduceEq,Int.reduceNe,Int.reduceNeg,Int.reduceAdd,Int.reduceSub,g1,List.length_map,List.getElem?_map,hx]
    refine draw [.qu 0 0, .qu 0 0, .qu 0 0, .qu 0 0, .qu 0 0, .qu 0 0, .qu 0 0, .qu 0 0, .qu 0 0, .qu 0 0, .qu 0 0, .qu 0 0, .qu 0 0, .qu 0 0, .qu 0 0, .qu 0 0, .qu 0 0, .qu 0 0, .qu 0 0, .qu 0 0, .qu 0 0, .qu 0 0, .qu 0 0, .qu 0 0, .qu 0 0, .qu 0 0, .qu 0 0, .qu 0 0, .qu 0 0, .qu 0 0, .qu 0 0, .qu 0 0, .qu 0 0, .qu 0 0, .qu 0 0, .qu 0 0, .qu 0 0, .qu 0 0, .qu 0 0, .qu 0 0, .qu 0 0, .qu 0 0] (by kernel_rfl) (by kernel_rfl) ?_
    have go : okAt p.s p.l i → ∀ s' H', Wk 0 90 s' H' ((Ch.nil.put 1 (.ptr 0 0 0)).put 3 (iv (i + 1 : Nat))) [.rows 3 [[.view false 1 (p.s.perm.map r1), .view false 1 (p.s.byt.map rb), .view false 3 (p.l.map rp)]]] → K s' H' := fun h s' H' hw =>
      hK (i + 1) s' H' ⟨by omega, fun k hk => (Nat.lt_or_eq_of_le (Nat.le_of_lt_succ hk)).elim (fun hk => ha k hk) (fun e => e ▸ h)⟩ (by omega) hw
    simp only [go_sem,Nat.reduceAdd,Nat.reduceSub,Nat.reduceMul,Nat.reduceEqDiff,Nat.reduceLeDiff,Nat.reduceLT,↓reduceIte,Int.reduceToNat,reduceCtorEq,Int.reduceLT,Int.reduceLE,Int.reduceGT,Int.reduceGE,Int.reduceEq,Int.reduceNe,Int.reduceNeg,Int.reduceAdd,Int.reduceSub]
    refine dG_dec (fun c3 => ?_) (fun c3 => ?_)
    · have e2 : iw .i64 ((i : Int) - 1) = ((i - 1 : Nat) : Int) := by rw [iw64] <;> omega
      obtain ⟨y, hy⟩ := at_lt (l := p.l) (i := i - 1) (by omega)
      have g3 : (0 : Int) ≤ ((i - 1 : Nat) : Int) ∧ ((i - 1 : Nat) : Int) < p.l.length := ⟨by omega, by omega⟩
      simp only [go_sem,Nat.reduceAdd,Nat.reduceSub,Nat.reduceMul,Nat.reduceEqDiff,Nat.reduceLeDiff,Nat.reduceLT,↓reduceIte,Int.reduceToNat,reduceCtorEq,Int.reduceLT,Int.reduceLE,Int.reduceGT,Int.reduceGE,Int.reduceEq,Int.reduceNe,Int.reduceNeg,Int.reduceAdd,Int.reduceSub,c3,e2,g3,hy,List.length_map,List.getElem?_map]
      refine dG_dec (fun c4 => ?_) (fun c4 => ?_)
      · simp only [go_sem,Nat.reduceAdd,Nat.reduceSub,Nat.reduceMul,Nat.reduceEqDiff,Nat.reduceLeDiff,Nat.reduceLT,↓reduceIte,Int.reduceToNat,reduceCtorEq,Int.reduceLT,Int.reduceLE,Int.reduceGT,Int.reduceGE,Int.reduceEq,Int.reduceNe,Int.reduceNeg,Int.reduceAdd,Int.reduceSub,c4]
        exact fin 70 _ (Pd.chk_no (bad fun h => by have := (h x hx).2 y (by omega) hy; omega)).symm
      simp only [go_sem,Nat.reduceAdd,Nat.reduceSub,Nat.reduceMul,Nat.reduceEqDiff,Nat.reduceLeDiff,Nat.reduceLT,↓reduceIte,Int.reduceToNat,reduceCtorEq,Int.reduceLT,Int.reduceLE,Int.reduceGT,Int.reduceGE,Int.reduceEq,Int.reduceNe,Int.reduceNeg,Int.reduceAdd,Int.reduceSub,c4]
      have hadj : ∀ y, 0 < i → p.l[i - 1]? = some y → y.at_ < x.at_ := fun z _ hz => by rw [hy] at hz; cases hz; omega
      refine dG_dec (fun c5 => ?_) (fun c5 => ?_)
      · simp only [go_sem,Nat.reduceAdd,Nat.reduceSub,Nat.reduceMul,Nat.reduceEqDiff,Nat.reduceLeDiff,Nat.reduceLT,↓reduceIte,Int.reduceToNat,reduceCtorEq,Int.reduceLT,Int.reduceLE,Int.reduceGT,Int.reduceGE,Int.reduceEq,Int.reduceNe,Int.reduceNeg,Int.reduceAdd,Int.reduceSub,c5]
        exact fin 70 _ (Pd.chk_no (bad fun h => by have := (h x hx).1.n1; omega)).symm
      simp only [go_sem,Nat.reduceAdd,Nat.reduceSub,Nat.reduceMul,Nat.reduceEqDiff,Nat.reduceLeDiff,Nat.reduceLT,↓reduceIte,Int.reduceToNat,reduceCtorEq,Int.reduceLT,Int.reduceLE,Int.reduceGT,Int.reduceGE,Int.reduceEq,Int.reduceNe,Int.reduceNeg,Int.reduceAdd,Int.reduceSub,c5]
      refine dG_dec (fun c6 => ?_) (fun c6 => ?_)
      · simp only [go_sem,Nat.reduceAdd,Nat.reduceSub,Nat.reduceMul,Nat.reduceEqDiff,Nat.reduceLeDiff,Nat.reduceLT,↓reduceIte,Int.reduceToNat,reduceCtorEq,Int.reduceLT,Int.reduceLE,Int.reduceGT,Int.reduceGE,Int.reduceEq,Int.reduceNe,Int.reduceNeg,Int.reduceAdd,Int.reduceSub,c6]
        exact fin 70 _ (Pd.chk_no (bad fun h => by have := (h x hx).1.n2; omega)).symm
      simp only [go_sem,Nat.reduceAdd,Nat.reduceSub,Nat.reduceMul,Nat.reduceEqDiff,Nat.reduceLeDiff,Nat.reduceLT,↓reduceIte,Int.reduceToNat,reduceCtorEq,Int.reduceLT,Int.reduceLE,Int.reduceGT,Int.reduceGE,Int.reduceEq,Int.reduceNe,Int.reduceNeg,Int.reduceAdd,Int.reduceSub,c6]
      refine y_call (enters_of Tryz.func65 rfl (by decide)) (fun _ => ACalls.pure_use (inside_c p.s x.at_) rfl rfl) ?_
      cases hh : p.s.has x.at_ with
      | false =>
        simp only [go_sem,Nat.reduceAdd,Nat.reduceSub,Nat.reduceMul,Nat.reduceEqDiff,Nat.reduceLeDiff,Nat.reduceLT,↓reduceIte,Int.reduceToNat,reduceCtorEq,Int.reduceLT,Int.reduceLE,Int.reduceGT,Int.reduceGE,Int.reduceEq,Int.reduceNe,Int.reduceNeg,Int.reduceAdd,Int.reduceSub]
        refine fin 70 _ (Pd.chk_no (bad fun h => ?_)).symm
        have h1 := (h x hx).1.a0
        have h2 := (h x hx).1.a1
        simp only [Sp.has, decide_eq_true h1, decide_eq_true h2] at hh
        cases hh
      | true =>
        obtain ⟨b, hb, b0, b1⟩ := Sp.byt_at hh
        have g2 : (0 : Int) ≤ x.at_ ∧ x.at_ < p.s.byt.length := ⟨b0, b1⟩
        simp only [go_sem,Nat.reduceAdd,Nat.reduceSub,Nat.reduceMul,Nat.reduceEqDiff,Nat.reduceLeDiff,Nat.reduceLT,↓reduceIte,Int.reduceToNat,reduceCtorEq,Int.reduceLT,Int.reduceLE,Int.reduceGT,Int.reduceGE,Int.reduceEq,Int.reduceNe,Int.reduceNeg,Int.reduceAdd,Int.reduceSub,g2,List.length_map,List.getElem?_map,hb]
        refine condD_dec (fun c7 => ?_) (fun c7 => ?_)
        · simp only [go_sem,Nat.reduceAdd,Nat.reduceSub,Nat.reduceMul,Nat.reduceEqDiff,Nat.reduceLeDiff,Nat.reduceLT,↓reduceIte,Int.reduceToNat,reduceCtorEq,Int.reduceLT,Int.reduceLE,Int.reduceGT,Int.reduceGE,Int.reduceEq,Int.reduceNe,Int.reduceNeg,Int.reduceAdd,Int.reduceSub]
          refine fin 70 _ (Pd.chk_no (bad fun h => ?_)).symm
          have := (h x hx).1.brk
          rw [hb] at this
          cases this
          exact absurd rfl c7
        · simp only [go_sem,Nat.reduceAdd,Nat.reduceSub,Nat.reduceMul,Nat.reduceEqDiff,Nat.reduceLeDiff,Nat.reduceLT,↓reduceIte,Int.reduceToNat,reduceCtorEq,Int.reduceLT,Int.reduceLE,Int.reduceGT,Int.reduceGE,Int.reduceEq,Int.reduceNe,Int.reduceNeg,Int.reduceAdd,Int.reduceSub,e1]
          refine go (fun z hz => ?_) _ _ (Wk.drop (m := 1) (by simp [wkS, Ch.get]) (Nat.zero_le _) (by simp) (by simp [chLt, AV.lt]) rfl (by simp [Blk.lt, ltL, AV.lt]))
          rw [hx] at hz
          cases hz
          refine ⟨⟨by omega, by omega, by omega, by omega, ?_⟩, hadj⟩
          rw [hb]
          have : (b.toNat : Int) = 204 := Decidable.not_not.1 c7
          exact congrArg some (UInt8.toNat_inj.1 (show b.toNat = (204 : UInt8).toNat by simp; omega))
    · simp only [go_sem,Nat.reduceAdd,Nat.reduceSub,Nat.reduceMul,Nat.reduceEqDiff,Nat.reduceLeDiff,Nat.reduceLT,↓reduceIte,Int.reduceToNat,reduceCtorEq,Int.reduceLT,Int.reduceLE,Int.reduceGT,Int.reduceGE,Int.reduceEq,Int.reduceNe,Int.reduceNeg,Int.reduceAdd,Int.reduceSub,c3]
      have hadj : ∀ y, 0 < i → p.l[i - 1]? = some y → y.at_ < x.at_ := fun z h0 _ => by omega
      refine dG_dec (fun c5 => ?_) (fun c5 => ?_)
      · simp only [go_sem,Nat.reduceAdd,Nat.reduceSub,Nat.reduceMul,Nat.reduceEqDiff,Nat.reduceLeDiff,Nat.reduceLT,↓reduceIte,Int.reduceToNat,reduceCtorEq,Int.reduceLT,Int.reduceLE,Int.reduceGT,Int.reduceGE,Int.reduceEq,Int.reduceNe,Int.reduceNeg,Int.reduceAdd,Int.reduceSub,c5]
        exact fin 70 _ (Pd.chk_no (bad fun h => by have := (h x hx).1.n1; omega)).symm
      simp only [go_sem,Nat.reduceAdd,Nat.reduceSub,Nat.reduceMul,Nat.reduceEqDiff,Nat.reduceLeDiff,Nat.reduceLT,↓reduceIte,Int.reduceToNat,reduceCtorEq,Int.reduceLT,Int.reduceLE,Int.reduceGT,Int.reduceGE,Int.reduceEq,Int.reduceNe,Int.reduceNeg,Int.reduceAdd,Int.reduceSub,c5]
      refine dG_dec (fun c6 => ?_) (fun c6 => ?_)
      · simp only [go_sem,Nat.reduceAdd,Nat.reduceSub,Nat.reduceMul,Nat.reduceEqDiff,Nat.reduceLeDiff,Nat.reduceLT,↓reduceIte,Int.reduceToNat,reduceCtorEq,Int.reduceLT,Int.reduceLE,Int.reduceGT,Int.reduceGE,Int.reduceEq,Int.reduceNe,Int.reduceNeg,Int.reduceAdd,Int.reduceSub,c6]
        exact fin 70 _ (Pd.chk_no (bad fun h => by have := (h x hx).1.n2; omega)).symm
      simp only [go_sem,Nat.reduceAdd,Nat.reduceSub,Nat.reduceMul,Nat.reduceEqDiff,Nat.reduceLeDiff,Nat.reduceLT,↓reduceIte,Int.reduceToNat,reduceCtorEq,Int.reduceLT,Int.reduceLE,Int.reduceGT,Int.reduceGE,Int.reduceEq,Int.reduceNe,Int.reduceNeg,Int.reduceAdd,Int.reduceSub,c6]
      refine y_call (enters_of Tryz.func65 rfl (by decide)) (fun _ => ACalls.pure_use (inside_c p.s x.at_) rfl rfl) ?_
      cases hh : p.s.has x.at_ with
      | false =>
        simp only [go_sem,Nat.reduceAdd,Nat.reduceSub,Nat.reduceMul,Nat.reduceEqDiff,Nat.reduceLeDiff,Nat.reduceLT,↓reduceIte,Int.reduceToNat,reduceCtorEq,Int.reduceLT,Int.reduceLE,Int.reduceGT,Int.reduceGE,Int.reduceEq,Int.reduceNe,Int.reduceNeg,Int.reduceAdd,Int.reduceSub]
        refine fin 70 _ (Pd.chk_no (bad fun h => ?_)).symm
        have h1 := (h x hx).1.a0
        have h2 := (h x hx).1.a1
        simp only [Sp.has, decide_eq_true h1, decide_eq_true h2] at hh
        cases hh
      | true =>
        obtain ⟨b, hb, b0, b1⟩ := Sp.byt_at hh
        have g2 : (0 : Int) ≤ x.at_ ∧ x.at_ < p.s.byt.length := ⟨b0, b1⟩
        simp only [go_sem,Nat.reduceAdd,Nat.reduceSub,Nat.reduceMul,Nat.reduceEqDiff,Nat.reduceLeDiff,Nat.reduceLT,↓reduceIte,Int.reduceToNat,reduceCtorEq,Int.reduceLT,Int.reduceLE,Int.reduceGT,Int.reduceGE,Int.reduceEq,Int.reduceNe,Int.reduceNeg,Int.reduceAdd,Int.reduceSub,g2,List.length_map,List.getElem?_map,hb]
        refine condD_dec (fun c7 => ?_) (fun c7 => ?_)
        · simp only [go_sem,Nat.reduceAdd,Nat.reduceSub,Nat.reduceMul,Nat.reduceEqDiff,Nat.reduceLeDiff,Nat.reduceLT,↓reduceIte,Int.reduceToNat,reduceCtorEq,Int.reduceLT,Int.reduceLE,Int.reduceGT,Int.reduceGE,Int.reduceEq,Int.reduceNe,Int.reduceNeg,Int.reduceAdd,Int.reduceSub]
          refine fin 70 _ (Pd.chk_no (bad fun h => ?_)).symm
          have := (h x hx).1.brk
          rw [hb] at this
          cases this
          exact absurd rfl c7
        · simp only [go_sem,Nat.reduceAdd,Nat.reduceSub,Nat.reduceMul,Nat.reduceEqDiff,Nat.reduceLeDiff,Nat.reduceLT,↓reduceIte,Int.reduceToNat,reduceCtorEq,Int.reduceLT,Int.reduceLE,Int.reduceGT,Int.reduceGE,Int.reduceEq,Int.reduceNe,Int.reduceNeg,Int.reduceAdd,Int.reduceSub,e1]
          refine go (fun z hz => ?_) _ _ (Wk.drop (m := 1) (by simp [wkS, Ch.get]) (Nat.zero_le _) (by simp) (by simp [chLt, AV.lt]) rfl (by simp [Blk.lt, ltL, AV.lt]))
          rw [hx] at hz
          cases hz
          refine ⟨⟨by omega, by omega, by omega, by omega, ?_⟩, hadj⟩
          rw [hb]
          have : (b.toNat : Int) = 204 := Decidable.not_not.1 c7
          exact congrArg some (UInt8.toNat_inj.1 (show b.toNat = (204 : UInt8).toNat by simp; omega))
  · simp only [go_sem,Nat.reduceAdd,Nat.reduceSub,Nat.reduceMul,Nat.reduceEqDiff,Nat.reduceLeDiff,Nat.reduceLT,↓reduceIte,Int.reduceToNat,reduceCtorEq,Int.reduceLT,Int.reduceLE,Int.reduceGT,Int.reduceGE,Int.reduceEq,Int.reduceNe,Int.reduceNeg,Int.reduceAdd,Int.reduceSub]
    have : i = p.l.length := by omega
    subst this
    have hall := okAt_all.1 ha
    refine rK_use (enters_of Tryz.func46 rfl (by decide)) (ACalls.pure_use (cleaned_c p ⟨by have := hs.p32; omega, by omega, by omega⟩ fun y hy => ⟨(hall.2 y hy).a0, (hall.2 y hy).a1⟩) rfl rfl) ?_
    have hcs : p.clean.ok := putL_ok _ _ hs
    simp only [go_sem,Nat.reduceAdd,Nat.reduceSub,Nat.reduceMul,Nat.reduceEqDiff,Nat.reduceLeDiff,Nat.reduceLT,↓reduceIte,Int.reduceToNat,reduceCtorEq,Int.reduceLT,Int.reduceLE,Int.reduceGT,Int.reduceGE,Int.reduceEq,Int.reduceNe,Int.reduceNeg,Int.reduceAdd,Int.reduceSub,Sp.av]
    refine loop_fam (fun i : Nat => (((Ch.nil.put 1 (.ptr 0 0 0)).put 5 (.ptr 1 0 0)).put 6 (iv i)))
      (fun _ => [.rows 3 [[.view false 1 (p.s.perm.map r1), .view false 1 (p.s.byt.map rb), .view false 3 (p.l.map rp)]], spB (.view false 1 (p.clean.perm.map r1)) (.view false 1 (p.clean.byt.map rb))]) (fun i => p.l.length - i) (fun i => i ≤ p.l.length ∧ ∀ x ∈ p.l.take i, (stand p.clean x.at_).e = 0) 0 (by kernel_rfl) ⟨Nat.zero_le _, by simp⟩ (Wk.slots' rfl (by simp [wkS, Ch.get])) ?_
    rintro i ⟨hi, hst⟩ K2 hK2
    simp only [go_sem,Nat.reduceAdd,Nat.reduceSub,Nat.reduceMul,Nat.reduceEqDiff,Nat.reduceLeDiff,Nat.reduceLT,↓reduceIte,Int.reduceToNat,reduceCtorEq,Int.reduceLT,Int.reduceLE,Int.reduceGT,Int.reduceGE,Int.reduceEq,Int.reduceNe,Int.reduceNeg,Int.reduceAdd,Int.reduceSub,List.length_map,spB]
    refine condD_dec (fun hc => ?_) (fun hc => ?_)
    · obtain ⟨x, hx⟩ := at_lt (l := p.l) (i := i) (by omega)
      have e1 : iw .i64 ((i : Int) + 1) = ((i + 1 : Nat) : Int) := by rw [iw64] <;> omega
      have g1 : (0 : Int) ≤ i ∧ (i : Int) < p.l.length := ⟨by omega, by omega⟩
      simp only [go_sem,Nat.reduceAdd,Nat.reduceSub,Nat.reduceMul,Nat.reduceEqDiff,Nat.reduceLeDiff,Nat.reduceLT,↓reduceIte,Int.reduceToNat,reduceCtorEq,Int.reduceLT,Int.reduceLE,Int.reduceGT,Int.reduceGE,Int.reduceEq,Int.reduceNe,Int.reduceNeg,Int.reduceAdd,Int.reduceSub]
      refine draw [.qu 0 0, .qu 0 0, .qu 0 0, .qu 0 0, .qu 0 0, .qu 0 0, .qu 0 0, .mn 0, .qu 1 1, .qu 1 1] (by kernel_rfl) (by kernel_rfl) ?_
      simp only [go_sem,Nat.reduceAdd,Nat.reduceSub,Nat.reduceMul,Nat.reduceEqDiff,Nat.reduceLeDiff,Nat.reduceLT,↓reduceIte,Int.reduceToNat,reduceCtorEq,Int.reduceLT,Int.reduceLE,Int.reduceGT,Int.reduceGE,Int.reduceEq,Int.reduceNe,Int.reduceNeg,Int.reduceAdd,Int.reduceSub,g1,hx,List.length_map,List.getElem?_map]
      refine dM_call (enters_of Tryz.func45 rfl (by decide)) (ACalls.pure_use (stands_c p.clean hcs x.at_) rfl (by simp [Dec.rav, AV.lt, ltL])) ?_
      rcases Decidable.em ((stand p.clean x.at_).e = 0) with h0 | h0
      · simp only [go_sem,Nat.reduceAdd,Nat.reduceSub,Nat.reduceMul,Nat.reduceEqDiff,Nat.reduceLeDiff,Nat.reduceLT,↓reduceIte,Int.reduceToNat,reduceCtorEq,Int.reduceLT,Int.reduceLE,Int.reduceGT,Int.reduceGE,Int.reduceEq,Int.reduceNe,Int.reduceNeg,Int.reduceAdd,Int.reduceSub,Dec.rav,eq_true h0,e1]
        refine hK2 (i + 1) _ _ ⟨by omega, fun y hy => ?_⟩ (by omega) (Wk.slots' rfl (by simp [wkS, Ch.get]))
        rw [List.take_add_one, hx, List.mem_append] at hy
        rcases hy with hy | hy
        · exact hst y hy
        · simp at hy; subst hy; exact h0
      · simp only [go_sem,Nat.reduceAdd,Nat.reduceSub,Nat.reduceMul,Nat.reduceEqDiff,Nat.reduceLeDiff,Nat.reduceLT,↓reduceIte,Int.reduceToNat,reduceCtorEq,Int.reduceLT,Int.reduceLE,Int.reduceGT,Int.reduceGE,Int.reduceEq,Int.reduceNe,Int.reduceNeg,Int.reduceAdd,Int.reduceSub,Dec.rav,eq_false h0]
        exact fin 70 _ (Pd.chk_no fun h => h0 (h.std x (List.mem_of_getElem? hx))).symm
    · simp only [go_sem,Nat.reduceAdd,Nat.reduceSub,Nat.reduceMul,Nat.reduceEqDiff,Nat.reduceLeDiff,Nat.reduceLT,↓reduceIte,Int.reduceToNat,reduceCtorEq,Int.reduceLT,Int.reduceLE,Int.reduceGT,Int.reduceGE,Int.reduceEq,Int.reduceNe,Int.reduceNeg,Int.reduceAdd,Int.reduceSub]
      exact fin 0 _ (Pd.chk_ok ⟨hs, by omega, hall.1, hall.2, fun x hx => hst x (by rw [List.take_of_length_le (by omega)]; exact hx)⟩).symm
end Go.Proofs.YtfiflailjbmlpaaGreatDoor
set_option maxRecDepth 100000
set_option linter.unusedVariables false
set_option linter.unusedSimpArgs false
namespace Go.Proofs.YtfiflailjbmlpaaGreatDoor
open Go.AM
def Sp.cells (s : Sp) : List AV := [.view false 1 (s.perm.map r1), .view false 1 (s.byt.map rb)]
theorem rpsame_c (a b : Pd) (ha : a.room) : ACalls Tryz.prog 27 [a.av, b.av] [] (fun o H => o = .ret (.bool (samePd a b)) ∧ H = []) := by
  refine ACalls.up ?_
  refine ACalls.intro (cs := []) (n := 39) Tryz.func27 rfl rfl rfl (by kernel_rfl) rfl ?_
  generalize hpost : (fun (o : Out) (H : Heap) => o = Out.ret (.bool (samePd a b)) ∧ H = []) = post
  have fin : ∀ v H, v = samePd a b → Up 0 post (.ret (.bool v)) H := fun v H h => finv rfl (by rw [← hpost, ← h]; exact ⟨rfl, rfl⟩) H
  have h1 := ha.h1
  have h3 := ha.h3
  simp only [go_sem,Nat.reduceAdd,Nat.reduceSub,Nat.reduceMul,Nat.reduceEqDiff,Nat.reduceLeDiff,Nat.reduceLT,↓reduceIte,Int.reduceToNat,reduceCtorEq,Int.reduceLT,Int.reduceLE,Int.reduceGT,Int.reduceGE,Int.reduceEq,Int.reduceNe,Int.reduceNeg,Int.reduceAdd,Int.reduceSub,Pd.av]
  refine rK_use (enters_of Tryz.func28 rfl (by decide)) (ACalls.pure_use (rsames_c a.s b.s (by omega)) rfl rfl) ?_
  cases hs : sameS a.s b.s with
  | false =>
    simp only [go_sem,Nat.reduceAdd,Nat.reduceSub,Nat.reduceMul,Nat.reduceEqDiff,Nat.reduceLeDiff,Nat.reduceLT,↓reduceIte,Int.reduceToNat,reduceCtorEq,Int.reduceLT,Int.reduceLE,Int.reduceGT,Int.reduceGE,Int.reduceEq,Int.reduceNe,Int.reduceNeg,Int.reduceAdd,Int.reduceSub]
    exact fin _ _ (by rw [samePd, hs, Bool.false_and])
  | true =>
    have hsd : samePd a b = decide (a.l = b.l) := by rw [samePd, hs, Bool.true_and]
    rw [hsd] at fin
    simp only [go_sem,Nat.reduceAdd,Nat.reduceSub,Nat.reduceMul,Nat.reduceEqDiff,Nat.reduceLeDiff,Nat.reduceLT,↓reduceIte,Int.reduceToNat,reduceCtorEq,Int.reduceLT,Int.reduceLE,Int.reduceGT,Int.reduceGE,Int.reduceEq,Int.reduceNe,Int.reduceNeg,Int.reduceAdd,Int.reduceSub,List.length_map]
    rcases Decidable.em ((a.l.length : Int) = b.l.length) with hl | hl
    rotate_left
    · simp only [go_sem,Nat.reduceAdd,Nat.reduceSub,Nat.reduceMul,Nat.reduceEqDiff,Nat.reduceLeDiff,Nat.reduceLT,↓reduceIte,Int.reduceToNat,reduceCtorEq,Int.reduceLT,Int.reduceLE,Int.reduceGT,Int.reduceGE,Int.reduceEq,Int.reduceNe,Int.reduceNeg,Int.reduceAdd,Int.reduceSub,eq_false hl]
      exact fin false _ (decide_eq_false fun h => hl (by rw [h])).symm
    simp only [go_sem,Nat.reduceAdd,Nat.reduceSub,Nat.reduceMul,Nat.reduceEqDiff,Nat.reduceLeDiff,Nat.reduceLT,↓reduceIte,Int.reduceToNat,reduceCtorEq,Int.reduceLT,Int.reduceLE,Int.reduceGT,Int.reduceGE,Int.reduceEq,Int.reduceNe,Int.reduceNeg,Int.reduceAdd,Int.reduceSub,eq_true hl]
    refine loop_fam (fun i : Nat => (((Ch.nil.put 2 (.ptr 0 0 0)).put 3 (.ptr 1 0 0)).put 5 (iv i))) (fun _ => [.rows 3 [[.view false 1 (a.s.perm.map r1), .view false 1 (a.s.byt.map rb), .view false 3 (a.l.map rp)]], .rows 3 [[.view false 1 (b.s.perm.map r1), .view false 1 (b.s.byt.map rb), .view false 3 (b.l.map rp)]]])
      (fun i => a.l.length - i) (fun i => i ≤ a.l.length ∧ a.l.take i = b.l.take i) 0 (by kernel_rfl) ⟨Nat.zero_le _, by simp⟩ (Wk.slots' rfl (by simp [wkS, Ch.get])) ?_
    rintro i ⟨hi, hsm⟩ K hK
    simp only [go_sem,Nat.reduceAdd,Nat.reduceSub,Nat.reduceMul,Nat.reduceEqDiff,Nat.reduceLeDiff,Nat.reduceLT,↓reduceIte,Int.reduceToNat,reduceCtorEq,Int.reduceLT,Int.reduceLE,Int.reduceGT,Int.reduceGE,Int.reduceEq,Int.reduceNe,Int.reduceNeg,Int.reduceAdd,Int.reduceSub,List.length_map]
    refine condD_dec (fun hc => ?_) (fun hc => ?_)
    · obtain ⟨x, hx⟩ := at_lt (l := a.l) (i := i) (by omega)
      obtain ⟨y, hy⟩ := at_lt (l := b.l) (i := i) (by omega)
      have e1 : iw .i64 ((i : Int) + 1) = ((i + 1 : Nat) : Int) := by rw [iw64] <;> omega
      have g1 : (0 : Int) ≤ i ∧ (i : Int) < a.l.length := ⟨by omega, by omega⟩
      have g2 : (0 : Int) ≤ i ∧ (i : Int) < b.l.length := ⟨by omega, by omega⟩
      simp only [go_sem,Nat.reduceAdd,Nat.reduceSub,Nat.reduceMul,Nat.reduceEqDiff,Nat.reduceLeDiff,Nat.reduceLT,↓reduceIte,Int.reduceToNat,reduceCtorEq,Int.reduceLT,Int.reduceLE,Int.reduceGT,Int.reduceGE,Int.reduceEq,Int.reduceNe,Int.reduceNeg,Int.reduceAdd,Int.reduceSub]
      refine draw [.qu 0 0, .qu 0 0, .qu 0 0, .qu 0 0, .qu 0 0, .qu 0 0, .qu 0 0, .qu 0 0, .qu 0 0, .qu 0 0, .qu 0 0] (by kernel_rfl) (by kernel_rfl) ?_
      simp only [go_sem,Nat.reduceAdd,Nat.reduceSub,Nat.reduceMul,Nat.reduceEqDiff,Nat.reduceLeDiff,Nat.reduceLT,↓reduceIte,Int.reduceToNat,reduceCtorEq,Int.reduceLT,Int.reduceLE,Int.reduceGT,Int.reduceGE,Int.reduceEq,Int.reduceNe,Int.reduceNeg,Int.reduceAdd,Int.reduceSub,hx,hy,List.getElem?_map,List.length_map,g1,g2,E92]
      have same : x = y → K ((((Ch.nil.put 2 (.ptr 0 0 0)).put 3 (.ptr 1 0 0)).put 5 (iv (i + 1 : Nat)))) [.rows 3 [[.view false 1 (a.s.perm.map r1), .view false 1 (a.s.byt.map rb), .view false 3 (a.l.map rp)]], .rows 3 [[.view false 1 (b.s.perm.map r1), .view false 1 (b.s.byt.map rb), .view false 3 (b.l.map rp)]]] := fun hxy =>
        hK (i + 1) _ _ ⟨by omega, by rw [List.take_add_one, List.take_add_one, hsm, hx, hy, hxy]⟩ (by omega) (Wk.slots' rfl (by simp [wkS, Ch.get]))
      have diff : x ≠ y → decide (a.l = b.l) = false := fun hxy => decide_eq_false fun h => hxy (by rw [h, hy] at hx; exact (Option.some.inj hx).symm)
      have hiff : x = y ↔ x.at_ = y.at_ ∧ (x.old.toNat : Int) = y.old.toNat ∧ x.n = y.n := by
        obtain ⟨x1, x2, x3⟩ := x
        obtain ⟨y1, y2, y3⟩ := y
        simp only [Pt.mk.injEq]
        constructor
        · rintro ⟨h1, h2, h3⟩
          exact ⟨h1, by rw [h2], h3⟩
        · rintro ⟨h1, h2, h3⟩
          exact ⟨h1, UInt8.toNat_inj.1 (by omega), h3⟩
      rcases Decidable.em (x.at_ = y.at_) with q1 | q1
      rotate_left
      · simp only [go_sem,Nat.reduceAdd,Nat.reduceSub,Nat.reduceMul,Nat.reduceEqDiff,Nat.reduceLeDiff,Nat.reduceLT,↓reduceIte,Int.reduceToNat,reduceCtorEq,Int.reduceLT,Int.reduceLE,Int.reduceGT,Int.reduceGE,Int.reduceEq,Int.reduceNe,Int.reduceNeg,Int.reduceAdd,Int.reduceSub,eq_false q1,Bool.false_and]
        exact fin false _ (diff fun h => q1 (hiff.1 h).1).symm
      rcases Decidable.em ((x.old.toNat : Int) = y.old.toNat) with q2 | q2
      rotate_left
      · simp only [go_sem,Nat.reduceAdd,Nat.reduceSub,Nat.reduceMul,Nat.reduceEqDiff,Nat.reduceLeDiff,Nat.reduceLT,↓reduceIte,Int.reduceToNat,reduceCtorEq,Int.reduceLT,Int.reduceLE,Int.reduceGT,Int.reduceGE,Int.reduceEq,Int.reduceNe,Int.reduceNeg,Int.reduceAdd,Int.reduceSub,eq_true q1,eq_false q2,Bool.false_and,Bool.and_false]
        exact fin false _ (diff fun h => q2 (hiff.1 h).2.1).symm
      rcases Decidable.em (x.n = y.n) with q3 | q3
      rotate_left
      · simp only [go_sem,Nat.reduceAdd,Nat.reduceSub,Nat.reduceMul,Nat.reduceEqDiff,Nat.reduceLeDiff,Nat.reduceLT,↓reduceIte,Int.reduceToNat,reduceCtorEq,Int.reduceLT,Int.reduceLE,Int.reduceGT,Int.reduceGE,Int.reduceEq,Int.reduceNe,Int.reduceNeg,Int.reduceAdd,Int.reduceSub,eq_true q1,eq_true q2,eq_false q3,Bool.and_false]
        exact fin false _ (diff fun h => q3 (hiff.1 h).2.2).symm
      simp only [go_sem,Nat.reduceAdd,Nat.reduceSub,Nat.reduceMul,Nat.reduceEqDiff,Nat.reduceLeDiff,Nat.reduceLT,↓reduceIte,Int.reduceToNat,reduceCtorEq,Int.reduceLT,Int.reduceLE,Int.reduceGT,Int.reduceGE,Int.reduceEq,Int.reduceNe,Int.reduceNeg,Int.reduceAdd,Int.reduceSub,eq_true q1,eq_true q2,eq_true q3,e1]
      exact hK (i + 1) _ _ ⟨by omega, by rw [List.take_add_one, List.take_add_one, hsm, hx, hy, hiff.2 ⟨q1, q2, q3⟩]⟩ (by omega) (Wk.slots' rfl (by simp [wkS, Ch.get]))
    · simp only [go_sem,Nat.reduceAdd,Nat.reduceSub,Nat.reduceMul,Nat.reduceEqDiff,Nat.reduceLeDiff,Nat.reduceLT,↓reduceIte,Int.reduceToNat,reduceCtorEq,Int.reduceLT,Int.reduceLE,Int.reduceGT,Int.reduceGE,Int.reduceEq,Int.reduceNe,Int.reduceNeg,Int.reduceAdd,Int.reduceSub]
      have : i = a.l.length := by omega
      subst this
      rw [List.take_length, List.take_of_length_le (by omega)] at hsm
      exact fin true _ (decide_eq_true hsm).symm
end Go.Proofs.YtfiflailjbmlpaaGreatDoor
set_option maxRecDepth 100000
set_option linter.unusedVariables false
set_option linter.unusedSimpArgs false
namespace Go.Proofs.YtfiflailjbmlpaaGreatDoor
open Go.AM
def m1 (o : Eff) (a v : Int) : Eff := { o with rg := o.rg.set a v }
def m2 (o : Eff) (pos : Int) (d : List UInt8) : Eff := { o with pos := pos, data := d }
end Go.Proofs.YtfiflailjbmlpaaGreatDoor
set_option maxRecDepth 100000
set_option linter.unusedVariables false
set_option linter.unusedSimpArgs false
namespace Go.Proofs.YtfiflailjbmlpaaGreatDoor
open Go.AM
def o0 (x : Ins) (r : Rg) : Eff := ⟨{ r with pc := iw .i64 (r.pc + x.len) }, 0, [], ⟨0, 0, ⟨0, 0⟩⟩, x⟩
end Go.Proofs.YtfiflailjbmlpaaGreatDoor
set_option maxRecDepth 100000
set_option linter.unusedVariables false
set_option linter.unusedSimpArgs false
namespace Go.Proofs.YtfiflailjbmlpaaGreatDoor
open Go.AM
theorem LeL.app : ∀ {xs ys us : List AV}, LeL xs ys → LeL (xs ++ us) (ys ++ us)
  | [], _, us, .nil => by
    induction us with
    | nil => exact .nil
    | cons u us ih => exact .cons (.refl _) ih
  | _ :: _, _, us, .cons h1 h2 => .cons h1 (LeL.app h2)
end Go.Proofs.YtfiflailjbmlpaaGreatDoor
