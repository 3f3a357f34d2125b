/- patch: PatchRuns, as the card states it. No condition. -/
import Derived.Test.YtfiflailjbmlpaaGreatDoorZ5
import Derived.Test.YtfiflailjbmlpaaGreatDoorTie
import Derived.Test.YtfiflailjbmlpaaGreatDoorCards
import Derived.ProofKit
import Derived.OpenShut
import Derived.LaidMore
import Derived.Lay
import Derived.SevenTiedAt
import Derived.Stop.Joined
set_option maxRecDepth 100000
set_option linter.unusedVariables false
set_option linter.unusedSimpArgs false
namespace Go.Proofs.YtfiflailjbmlpaaGreatDoor
open Go.AM
theorem check1_c (s : Sp) (hs : s.ok) (x : Pt) : ACalls Tryz.prog 63 [.agg (rp x), .ptr 0 0 0] [spB (.view false 1 (s.perm.map r1)) (.view false 1 (s.byt.map rb))]
    (fun o H => o = .ret (.bool (!decide ((stand s x.at_).e = 0))) ∧ H = [spB (.view false 1 (s.perm.map r1)) (.view false 1 (s.byt.map rb))]) := by
  refine ACalls.up ?_
  refine ACalls.intro (cs := []) (n := 15) Tryz.func63 rfl rfl rfl (by kernel_rfl) rfl ?_
  simp only [go_sem,Nat.reduceAdd,Nat.reduceSub,Nat.reduceMul,Nat.reduceEqDiff,Nat.reduceLeDiff,Nat.reduceLT,↓reduceIte,Int.reduceToNat,reduceCtorEq,Int.reduceLT,Int.reduceLE,Int.reduceGT,Int.reduceGE,Int.reduceEq,Int.reduceNe,Int.reduceNeg,Int.reduceAdd,Int.reduceSub,spB]
  refine rK_use (enters_of Tryz.func49 rfl (by decide)) (ACalls.pure_use (standing_c s hs x.at_) rfl (by simp [sitC, Ins.cells, AV.lt, ltL])) ?_
  simp only [go_sem,Nat.reduceAdd,Nat.reduceSub,Nat.reduceMul,Nat.reduceEqDiff,Nat.reduceLeDiff,Nat.reduceLT,↓reduceIte,Int.reduceToNat,reduceCtorEq,Int.reduceLT,Int.reduceLE,Int.reduceGT,Int.reduceGE,Int.reduceEq,Int.reduceNe,Int.reduceNeg,Int.reduceAdd,Int.reduceSub,sitC,Ins.cells]
  exact .gc 1 (Nat.le_refl _) (by simp) rfl (by simp [Blk.lt, ltL, AV.lt]) (.done ⟨rfl, rfl⟩)
def bad0 (s : Sp) : List Pt → Nat → Int
  | [], _ => -1
  | x :: l, i => if (stand s x.at_).e = 0 then bad0 s l (i + 1) else i
theorem bad0_lt (s : Sp) : ∀ (l : List Pt) (i : Nat), bad0 s l i < 0 ↔ ∀ x ∈ l, (stand s x.at_).e = 0
  | [], i => by simp [bad0]
  | x :: l, i => by
    have := bad0_lt s l (i + 1)
    rw [bad0, List.forall_mem_cons]
    split
    · rename_i h; rw [this]; exact ⟨fun k => ⟨h, k⟩, fun k => k.2⟩
    · rename_i h; exact ⟨fun k => by omega, fun k => absurd k.1 h⟩
theorem index_c (s : Sp) (hs : s.ok) (l : List Pt) (hl : l.length ≤ 1000000) : ACalls Tryz.prog 107 [.view false 3 (l.map rp), .func (.func 63) [] [.ptr 0 0 0]] [spB (.view false 1 (s.perm.map r1)) (.view false 1 (s.byt.map rb))]
    (fun o H => o = .ret (iv (bad0 s l 0)) ∧ H = [spB (.view false 1 (s.perm.map r1)) (.view false 1 (s.byt.map rb))]) := by
  refine ACalls.up ?_
  refine ACalls.intro (cs := []) (n := 19) Tryz.func107 rfl rfl rfl (by kernel_rfl) rfl ?_
  generalize hpost : (fun (o : Out) (H : Heap) => o = Out.ret (iv (bad0 s l 0)) ∧ H = [spB (.view false 1 (s.perm.map r1)) (.view false 1 (s.byt.map rb))]) = post
  simp only [go_sem,Nat.reduceAdd,Nat.reduceSub,Nat.reduceMul,Nat.reduceEqDiff,Nat.reduceLeDiff,Nat.reduceLT,↓reduceIte,Int.reduceToNat,reduceCtorEq,Int.reduceLT,Int.reduceLE,Int.reduceGT,Int.reduceGE,Int.reduceEq,Int.reduceNe,Int.reduceNeg,Int.reduceAdd,Int.reduceSub,List.length_map]
  refine loop_fam (fun i : Nat => ((((Ch.nil.put 0 (.view false 3 (l.map rp))).put 1 (.func (.func 63) [] [.ptr 0 0 0])).put 7 (iv l.length)).put 8 (iv i)))
    (fun _ => [spB (.view false 1 (s.perm.map r1)) (.view false 1 (s.byt.map rb))]) (fun i => l.length - i) (fun i => i ≤ l.length ∧ bad0 s l 0 = bad0 s (l.drop i) i) 0 (by kernel_rfl) ⟨Nat.zero_le _, rfl⟩ (Wk.slots' rfl (by simp [wkS, Ch.get])) ?_
  rintro i ⟨hi, hb⟩ K hK
  simp only [go_sem,Nat.reduceAdd,Nat.reduceSub,Nat.reduceMul,Nat.reduceEqDiff,Nat.reduceLeDiff,Nat.reduceLT,↓reduceIte,Int.reduceToNat,reduceCtorEq,Int.reduceLT,Int.reduceLE,Int.reduceGT,Int.reduceGE,Int.reduceEq,Int.reduceNe,Int.reduceNeg,Int.reduceAdd,Int.reduceSub]
  refine condD_dec (fun hc => ?_) (fun hc => ?_)
  · obtain ⟨x, hx⟩ := at_lt (l := l) (i := i) (by omega)
    have e1 : iw .i64 ((i : Int) + 1) = ((i + 1 : Nat) : Int) := by rw [iw64] <;> omega
    have g1 : (0 : Int) ≤ i ∧ (i : Int) < l.length := ⟨by omega, by omega⟩
    rw [drop_at hx, bad0] at hb
    simp only [go_sem,Nat.reduceAdd,Nat.reduceSub,Nat.reduceMul,Nat.reduceEqDiff,Nat.reduceLeDiff,Nat.reduceLT,↓reduceIte,Int.reduceToNat,reduceCtorEq,Int.reduceLT,Int.reduceLE,Int.reduceGT,Int.reduceGE,Int.reduceEq,Int.reduceNe,Int.reduceNeg,Int.reduceAdd,Int.reduceSub,g1,List.length_map,List.getElem?_map,hx]
    refine rK_use (enters_of Tryz.func63 rfl (by decide)) (check1_c s hs x) ?_
    rcases Decidable.em ((stand s x.at_).e = 0) with h0 | h0
    · rw [decide_eq_true h0, Bool.not_true]
      rw [if_pos h0] at hb
      simp only [go_sem,Nat.reduceAdd,Nat.reduceSub,Nat.reduceMul,Nat.reduceEqDiff,Nat.reduceLeDiff,Nat.reduceLT,↓reduceIte,Int.reduceToNat,reduceCtorEq,Int.reduceLT,Int.reduceLE,Int.reduceGT,Int.reduceGE,Int.reduceEq,Int.reduceNe,Int.reduceNeg,Int.reduceAdd,Int.reduceSub,e1]
      exact hK (i + 1) _ _ ⟨by omega, hb⟩ (by omega) (Wk.slots' rfl (by simp [wkS, Ch.get]))
    · rw [decide_eq_false h0, Bool.not_false]
      rw [if_neg h0] at hb
      simp only [go_sem,Nat.reduceAdd,Nat.reduceSub,Nat.reduceMul,Nat.reduceEqDiff,Nat.reduceLeDiff,Nat.reduceLT,↓reduceIte,Int.reduceToNat,reduceCtorEq,Int.reduceLT,Int.reduceLE,Int.reduceGT,Int.reduceGE,Int.reduceEq,Int.reduceNe,Int.reduceNeg,Int.reduceAdd,Int.reduceSub]
      refine .done ?_
      rw [← hpost, hb]
      exact ⟨rfl, rfl⟩
  · simp only [go_sem,Nat.reduceAdd,Nat.reduceSub,Nat.reduceMul,Nat.reduceEqDiff,Nat.reduceLeDiff,Nat.reduceLT,↓reduceIte,Int.reduceToNat,reduceCtorEq,Int.reduceLT,Int.reduceLE,Int.reduceGT,Int.reduceGE,Int.reduceEq,Int.reduceNe,Int.reduceNeg,Int.reduceAdd,Int.reduceSub]
    have : i = l.length := by omega
    subst this
    rw [List.drop_length, bad0] at hb
    refine .done ?_
    rw [← hpost, hb]
    exact ⟨rfl, rfl⟩
theorem contains_c (s : Sp) (hs : s.ok) (l : List Pt) (hl : l.length ≤ 1000000) : ACalls Tryz.prog 62 [.view false 3 (l.map rp), .func (.func 63) [] [.ptr 0 0 0]] [spB (.view false 1 (s.perm.map r1)) (.view false 1 (s.byt.map rb))]
    (fun o H => o = .ret (.bool (decide (0 ≤ bad0 s l 0))) ∧ H = [spB (.view false 1 (s.perm.map r1)) (.view false 1 (s.byt.map rb))]) := by
  refine ACalls.up ?_
  refine ACalls.intro (cs := []) (n := 9) Tryz.func62 rfl rfl rfl (by kernel_rfl) rfl ?_
  simp only [go_sem,Nat.reduceAdd,Nat.reduceSub,Nat.reduceMul,Nat.reduceEqDiff,Nat.reduceLeDiff,Nat.reduceLT,↓reduceIte,Int.reduceToNat,reduceCtorEq,Int.reduceLT,Int.reduceLE,Int.reduceGT,Int.reduceGE,Int.reduceEq,Int.reduceNe,Int.reduceNeg,Int.reduceAdd,Int.reduceSub]
  refine rK_use (enters_of Tryz.func107 rfl (by decide)) (index_c s hs l hl) ?_
  simp only [go_sem,Nat.reduceAdd,Nat.reduceSub,Nat.reduceMul,Nat.reduceEqDiff,Nat.reduceLeDiff,Nat.reduceLT,↓reduceIte,Int.reduceToNat,reduceCtorEq,Int.reduceLT,Int.reduceLE,Int.reduceGT,Int.reduceGE,Int.reduceEq,Int.reduceNe,Int.reduceNeg,Int.reduceAdd,Int.reduceSub]
  exact .done ⟨rfl, rfl⟩
theorem pcheck_c (p : Pd) : ACalls Tryz.prog 25 [p.av] [] (fun o H => o = .ret (iv p.chk) ∧ H = []) := by
  refine ACalls.up ?_
  refine ACalls.intro (cs := []) (n := 79) Tryz.func25 rfl rfl rfl (by kernel_rfl) rfl ?_
  generalize hpost : (fun (o : Out) (H : Heap) => o = Out.ret (iv p.chk) ∧ H = []) = post
  have fin : ∀ n H, n = p.chk → Up 0 post (.ret (iv n)) H := fun n H h => finv rfl (by rw [← hpost, ← h]; exact ⟨rfl, rfl⟩) H
  simp only [go_sem,Nat.reduceAdd,Nat.reduceSub,Nat.reduceMul,Nat.reduceEqDiff,Nat.reduceLeDiff,Nat.reduceLT,↓reduceIte,Int.reduceToNat,reduceCtorEq,Int.reduceLT,Int.reduceLE,Int.reduceGT,Int.reduceGE,Int.reduceEq,Int.reduceNe,Int.reduceNeg,Int.reduceAdd,Int.reduceSub,Pd.av]
  refine rK_use (enters_of Tryz.func61 rfl (by decide)) (ACalls.pure_use (mcheck_c p.s) rfl rfl) ?_
  by_cases hs : p.s.ok
  rotate_left
  · rw [Sp.chk, if_neg hs]
    simp only [go_sem,Nat.reduceAdd,Nat.reduceSub,Nat.reduceMul,Nat.reduceEqDiff,Nat.reduceLeDiff,Nat.reduceLT,↓reduceIte,Int.reduceToNat,reduceCtorEq,Int.reduceLT,Int.reduceLE,Int.reduceGT,Int.reduceGE,Int.reduceEq,Int.reduceNe,Int.reduceNeg,Int.reduceAdd,Int.reduceSub]
    exact fin 70 _ (Pd.chk_no fun h => hs h.sok).symm
  rw [Sp.chk_ok hs]
  simp only [go_sem,Nat.reduceAdd,Nat.reduceSub,Nat.reduceMul,Nat.reduceEqDiff,Nat.reduceLeDiff,Nat.reduceLT,↓reduceIte,Int.reduceToNat,reduceCtorEq,Int.reduceLT,Int.reduceLE,Int.reduceGT,Int.reduceGE,Int.reduceEq,Int.reduceNe,Int.reduceNeg,Int.reduceAdd,Int.reduceSub,List.length_map]
  refine condD_dec (fun hl => ?_) (fun hl => ?_)
  · simp only [go_sem,Nat.reduceAdd,Nat.reduceSub,Nat.reduceMul,Nat.reduceEqDiff,Nat.reduceLeDiff,Nat.reduceLT,↓reduceIte,Int.reduceToNat,reduceCtorEq,Int.reduceLT,Int.reduceLE,Int.reduceGT,Int.reduceGE,Int.reduceEq,Int.reduceNe,Int.reduceNeg,Int.reduceAdd,Int.reduceSub]
    exact fin 70 _ (Pd.chk_no fun h => by have := h.len; omega).symm
  simp only [go_sem,Nat.reduceAdd,Nat.reduceSub,Nat.reduceMul,Nat.reduceEqDiff,Nat.reduceLeDiff,Nat.reduceLT,↓reduceIte,Int.reduceToNat,reduceCtorEq,Int.reduceLT,Int.reduceLE,Int.reduceGT,Int.reduceGE,Int.reduceEq,Int.reduceNe,Int.reduceNeg,Int.reduceAdd,Int.reduceSub,List.length_map]
  have hbl := byt_len hs
  refine loop_fam (fun i : Nat => ((((Ch.nil.put 1 (.ptr 0 0 0)).put 17 (.view false 3 (p.l.map rp))).put 18 (iv p.l.length)).put 19 (iv i)))
    (fun _ => [.rows 3 [[.view false 1 (p.s.perm.map r1), .view false 1 (p.s.byt.map rb), .view false 3 (p.l.map rp)]]]) (fun i => p.l.length - i) (fun i => i ≤ p.l.length ∧ ∀ k, k < i → okAt p.s p.l k) 0 (by kernel_rfl) ⟨Nat.zero_le _, fun k hk => absurd hk (Nat.not_lt_zero _)⟩ (Wk.slots' rfl (by simp [wkS, Ch.get])) ?_
  rintro i ⟨hi, ha⟩ K hK
  simp only [go_sem,Nat.reduceAdd,Nat.reduceSub,Nat.reduceMul,Nat.reduceEqDiff,Nat.reduceLeDiff,Nat.reduceLT,↓reduceIte,Int.reduceToNat,reduceCtorEq,Int.reduceLT,Int.reduceLE,Int.reduceGT,Int.reduceGE,Int.reduceEq,Int.reduceNe,Int.reduceNeg,Int.reduceAdd,Int.reduceSub]
  refine condD_dec (fun hc => ?_) (fun hc => ?_)
  · obtain ⟨x, hx⟩ := at_lt (l := p.l) (i := i) (by omega)
    have e1 : iw .i64 ((i : Int) + 1) = ((i + 1 : Nat) : Int) := by rw [iw64] <;> omega
    have g1 : (0 : Int) ≤ i ∧ (i : Int) < p.l.length := ⟨by omega, by omega⟩
    have bad : ¬ okAt p.s p.l i → ¬ p.ok := fun h hp => h ((okAt_all.2 ⟨hp.sor, hp.fits⟩) i (by omega))
    simp only [go_sem,Nat.reduceAdd,Nat.reduceSub,Nat.reduceMul,Nat.reduceEqDiff,Nat.reduceLeDiff,Nat.reduceLT,↓reduceIte,Int.reduceToNat,reduceCtorEq,Int.reduceLT,Int.reduceLE,Int.reduceGT,Int.reduceGE,Int.reduceEq,Int.reduceNe,Int.reduceNeg,Int.reduceAdd,Int.reduceSub,g1,List.length_map,List.getElem?_map,hx]
    refine draw [.qu 0 0, .qu 0 0, .qu 0 0, .qu 0 0, .qu 0 0, .qu 0 0, .qu 0 0, .qu 0 0, .qu 0 0, .qu 0 0, .qu 0 0, .qu 0 0, .qu 0 0, .qu 0 0, .qu 0 0, .qu 0 0, .qu 0 0, .qu 0 0, .qu 0 0, .qu 0 0, .qu 0 0, .qu 0 0, .qu 0 0, .qu 0 0, .qu 0 0, .qu 0 0, .qu 0 0, .qu 0 0, .qu 0 0, .qu 0 0, .qu 0 0, .qu 0 0, .qu 0 0, .qu 0 0, .qu 0 0, .qu 0 0, .qu 0 0, .qu 0 0, .qu 0 0, .qu 0 0, .qu 0 0, .qu 0 0, .qu 0 0, .qu 0 0, .qu 0 0, .qu 0 0, .qu 0 0, .qu 0 0] (by kernel_rfl) (by kernel_rfl) ?_
    simp only [go_sem,Nat.reduceAdd,Nat.reduceSub,Nat.reduceMul,Nat.reduceEqDiff,Nat.reduceLeDiff,Nat.reduceLT,↓reduceIte,Int.reduceToNat,reduceCtorEq,Int.reduceLT,Int.reduceLE,Int.reduceGT,Int.reduceGE,Int.reduceEq,Int.reduceNe,Int.reduceNeg,Int.reduceAdd,Int.reduceSub,List.length_map]
    have go : okAt p.s p.l i → ∀ s' H', Wk 0 79 s' H' (((((Ch.nil.put 1 (.ptr 0 0 0)).put 17 (.view false 3 (p.l.map rp))).put 18 (iv p.l.length)).put 19 (iv (i + 1 : Nat)))) [.rows 3 [[.view false 1 (p.s.perm.map r1), .view false 1 (p.s.byt.map rb), .view false 3 (p.l.map rp)]]] → K s' H' := fun h s' H' hw =>
      hK (i + 1) s' H' ⟨by omega, fun k hk => (Nat.lt_or_eq_of_le (Nat.le_of_lt_succ hk)).elim (fun hk => ha k hk) (fun e => e ▸ h)⟩ (by omega) hw
    refine dG_dec (fun c1 => ?_) (fun c1 => ?_)
    · simp only [go_sem,Nat.reduceAdd,Nat.reduceSub,Nat.reduceMul,Nat.reduceEqDiff,Nat.reduceLeDiff,Nat.reduceLT,↓reduceIte,Int.reduceToNat,reduceCtorEq,Int.reduceLT,Int.reduceLE,Int.reduceGT,Int.reduceGE,Int.reduceEq,Int.reduceNe,Int.reduceNeg,Int.reduceAdd,Int.reduceSub,c1]
      exact fin 70 _ (Pd.chk_no (bad fun h => by have := (h x hx).1.a0; omega)).symm
    simp only [go_sem,Nat.reduceAdd,Nat.reduceSub,Nat.reduceMul,Nat.reduceEqDiff,Nat.reduceLeDiff,Nat.reduceLT,↓reduceIte,Int.reduceToNat,reduceCtorEq,Int.reduceLT,Int.reduceLE,Int.reduceGT,Int.reduceGE,Int.reduceEq,Int.reduceNe,Int.reduceNeg,Int.reduceAdd,Int.reduceSub,c1,List.length_map]
    refine dG_dec (fun c2 => ?_) (fun c2 => ?_)
    · simp only [go_sem,Nat.reduceAdd,Nat.reduceSub,Nat.reduceMul,Nat.reduceEqDiff,Nat.reduceLeDiff,Nat.reduceLT,↓reduceIte,Int.reduceToNat,reduceCtorEq,Int.reduceLT,Int.reduceLE,Int.reduceGT,Int.reduceGE,Int.reduceEq,Int.reduceNe,Int.reduceNeg,Int.reduceAdd,Int.reduceSub,c2]
      exact fin 70 _ (Pd.chk_no (bad fun h => by have := (h x hx).1.a1; omega)).symm
    obtain ⟨b, hb⟩ := at_lt (l := p.s.byt) (i := x.at_.toNat) (by omega)
    have g2 : (0 : Int) ≤ x.at_ ∧ x.at_ < p.s.byt.length := ⟨by omega, by omega⟩
    simp only [go_sem,Nat.reduceAdd,Nat.reduceSub,Nat.reduceMul,Nat.reduceEqDiff,Nat.reduceLeDiff,Nat.reduceLT,↓reduceIte,Int.reduceToNat,reduceCtorEq,Int.reduceLT,Int.reduceLE,Int.reduceGT,Int.reduceGE,Int.reduceEq,Int.reduceNe,Int.reduceNeg,Int.reduceAdd,Int.reduceSub,c2]
    refine dG_dec (fun c3 => ?_) (fun c3 => ?_)
    · have e2 : iw .i64 ((i : Int) - 1) = ((i - 1 : Nat) : Int) := by rw [iw64] <;> omega
      obtain ⟨y, hy⟩ := at_lt (l := p.l) (i := i - 1) (by omega)
      have g3 : (0 : Int) ≤ ((i - 1 : Nat) : Int) ∧ ((i - 1 : Nat) : Int) < p.l.length := ⟨by omega, by omega⟩
      simp only [go_sem,Nat.reduceAdd,Nat.reduceSub,Nat.reduceMul,Nat.reduceEqDiff,Nat.reduceLeDiff,Nat.reduceLT,↓reduceIte,Int.reduceToNat,reduceCtorEq,Int.reduceLT,Int.reduceLE,Int.reduceGT,Int.reduceGE,Int.reduceEq,Int.reduceNe,Int.reduceNeg,Int.reduceAdd,Int.reduceSub,c3,e2,g3,hy,List.length_map,List.getElem?_map]
      refine dG_dec (fun c4 => ?_) (fun c4 => ?_)
      · simp only [go_sem,Nat.reduceAdd,Nat.reduceSub,Nat.reduceMul,Nat.reduceEqDiff,Nat.reduceLeDiff,Nat.reduceLT,↓reduceIte,Int.reduceToNat,reduceCtorEq,Int.reduceLT,Int.reduceLE,Int.reduceGT,Int.reduceGE,Int.reduceEq,Int.reduceNe,Int.reduceNeg,Int.reduceAdd,Int.reduceSub,c4]
        exact fin 70 _ (Pd.chk_no (bad fun h => by have := (h x hx).2 y (by omega) hy; omega)).symm
      simp only [go_sem,Nat.reduceAdd,Nat.reduceSub,Nat.reduceMul,Nat.reduceEqDiff,Nat.reduceLeDiff,Nat.reduceLT,↓reduceIte,Int.reduceToNat,reduceCtorEq,Int.reduceLT,Int.reduceLE,Int.reduceGT,Int.reduceGE,Int.reduceEq,Int.reduceNe,Int.reduceNeg,Int.reduceAdd,Int.reduceSub,c4]
      have hadj : ∀ y, 0 < i → p.l[i - 1]? = some y → y.at_ < x.at_ := fun z _ hz => by rw [hy] at hz; cases hz; omega
      refine dG_dec (fun c5 => ?_) (fun c5 => ?_)
      · simp only [go_sem,Nat.reduceAdd,Nat.reduceSub,Nat.reduceMul,Nat.reduceEqDiff,Nat.reduceLeDiff,Nat.reduceLT,↓reduceIte,Int.reduceToNat,reduceCtorEq,Int.reduceLT,Int.reduceLE,Int.reduceGT,Int.reduceGE,Int.reduceEq,Int.reduceNe,Int.reduceNeg,Int.reduceAdd,Int.reduceSub,c5]
        exact fin 70 _ (Pd.chk_no (bad fun h => by have := (h x hx).1.n1; omega)).symm
      simp only [go_sem,Nat.reduceAdd,Nat.reduceSub,Nat.reduceMul,Nat.reduceEqDiff,Nat.reduceLeDiff,Nat.reduceLT,↓reduceIte,Int.reduceToNat,reduceCtorEq,Int.reduceLT,Int.reduceLE,Int.reduceGT,Int.reduceGE,Int.reduceEq,Int.reduceNe,Int.reduceNeg,Int.reduceAdd,Int.reduceSub,c5]
      refine dG_dec (fun c6 => ?_) (fun c6 => ?_)
      · simp only [go_sem,Nat.reduceAdd,Nat.reduceSub,Nat.reduceMul,Nat.reduceEqDiff,Nat.reduceLeDiff,Nat.reduceLT,↓reduceIte,Int.reduceToNat,reduceCtorEq,Int.reduceLT,Int.reduceLE,Int.reduceGT,Int.reduceGE,Int.reduceEq,Int.reduceNe,Int.reduceNeg,Int.reduceAdd,Int.reduceSub,c6]
        exact fin 70 _ (Pd.chk_no (bad fun h => by have := (h x hx).1.n2; omega)).symm
      simp only [go_sem,Nat.reduceAdd,Nat.reduceSub,Nat.reduceMul,Nat.reduceEqDiff,Nat.reduceLeDiff,Nat.reduceLT,↓reduceIte,Int.reduceToNat,reduceCtorEq,Int.reduceLT,Int.reduceLE,Int.reduceGT,Int.reduceGE,Int.reduceEq,Int.reduceNe,Int.reduceNeg,Int.reduceAdd,Int.reduceSub,c6,g2,List.length_map,List.getElem?_map,hb]
      refine condD_dec (fun c7 => ?_) (fun c7 => ?_)
      · simp only [go_sem,Nat.reduceAdd,Nat.reduceSub,Nat.reduceMul,Nat.reduceEqDiff,Nat.reduceLeDiff,Nat.reduceLT,↓reduceIte,Int.reduceToNat,reduceCtorEq,Int.reduceLT,Int.reduceLE,Int.reduceGT,Int.reduceGE,Int.reduceEq,Int.reduceNe,Int.reduceNeg,Int.reduceAdd,Int.reduceSub]
        refine fin 70 _ (Pd.chk_no (bad fun h => ?_)).symm
        have := (h x hx).1.brk
        rw [hb] at this
        cases this
        exact absurd rfl c7
      · simp only [go_sem,Nat.reduceAdd,Nat.reduceSub,Nat.reduceMul,Nat.reduceEqDiff,Nat.reduceLeDiff,Nat.reduceLT,↓reduceIte,Int.reduceToNat,reduceCtorEq,Int.reduceLT,Int.reduceLE,Int.reduceGT,Int.reduceGE,Int.reduceEq,Int.reduceNe,Int.reduceNeg,Int.reduceAdd,Int.reduceSub,e1]
        refine go (fun z hz => ?_) _ _ (Wk.drop (m := 1) (by simp [wkS, Ch.get]) (Nat.zero_le _) (by simp) (by simp [chLt, AV.lt]) rfl (by simp [Blk.lt, ltL, AV.lt]))
        rw [hx] at hz
        cases hz
        refine ⟨⟨by omega, by omega, by omega, by omega, ?_⟩, hadj⟩
        rw [hb]
        have : (b.toNat : Int) = 204 := Decidable.not_not.1 c7
        exact congrArg some (UInt8.toNat_inj.1 (show b.toNat = (204 : UInt8).toNat by simp; omega))
    · simp only [go_sem,Nat.reduceAdd,Nat.reduceSub,Nat.reduceMul,Nat.reduceEqDiff,Nat.reduceLeDiff,Nat.reduceLT,↓reduceIte,Int.reduceToNat,reduceCtorEq,Int.reduceLT,Int.reduceLE,Int.reduceGT,Int.reduceGE,Int.reduceEq,Int.reduceNe,Int.reduceNeg,Int.reduceAdd,Int.reduceSub,c3]
      have hadj : ∀ y, 0 < i → p.l[i - 1]? = some y → y.at_ < x.at_ := fun z h0 _ => by omega
      refine dG_dec (fun c5 => ?_) (fun c5 => ?_)
      · simp only [go_sem,Nat.reduceAdd,Nat.reduceSub,Nat.reduceMul,Nat.reduceEqDiff,Nat.reduceLeDiff,Nat.reduceLT,↓reduceIte,Int.reduceToNat,reduceCtorEq,Int.reduceLT,Int.reduceLE,Int.reduceGT,Int.reduceGE,Int.reduceEq,Int.reduceNe,Int.reduceNeg,Int.reduceAdd,Int.reduceSub,c5]
        exact fin 70 _ (Pd.chk_no (bad fun h => by have := (h x hx).1.n1; omega)).symm
      simp only [go_sem,Nat.reduceAdd,Nat.reduceSub,Nat.reduceMul,Nat.reduceEqDiff,Nat.reduceLeDiff,Nat.reduceLT,↓reduceIte,Int.reduceToNat,reduceCtorEq,Int.reduceLT,Int.reduceLE,Int.reduceGT,Int.reduceGE,Int.reduceEq,Int.reduceNe,Int.reduceNeg,Int.reduceAdd,Int.reduceSub,c5]
      refine dG_dec (fun c6 => ?_) (fun c6 => ?_)
      · simp only [go_sem,Nat.reduceAdd,Nat.reduceSub,Nat.reduceMul,Nat.reduceEqDiff,Nat.reduceLeDiff,Nat.reduceLT,↓reduceIte,Int.reduceToNat,reduceCtorEq,Int.reduceLT,Int.reduceLE,Int.reduceGT,Int.reduceGE,Int.reduceEq,Int.reduceNe,Int.reduceNeg,Int.reduceAdd,Int.reduceSub,c6]
        exact fin 70 _ (Pd.chk_no (bad fun h => by have := (h x hx).1.n2; omega)).symm
      simp only [go_sem,Nat.reduceAdd,Nat.reduceSub,Nat.reduceMul,Nat.reduceEqDiff,Nat.reduceLeDiff,Nat.reduceLT,↓reduceIte,Int.reduceToNat,reduceCtorEq,Int.reduceLT,Int.reduceLE,Int.reduceGT,Int.reduceGE,Int.reduceEq,Int.reduceNe,Int.reduceNeg,Int.reduceAdd,Int.reduceSub,c6,g2,List.length_map,List.getElem?_map,hb]
      refine condD_dec (fun c7 => ?_) (fun c7 => ?_)
      · simp only [go_sem,Nat.reduceAdd,Nat.reduceSub,Nat.reduceMul,Nat.reduceEqDiff,Nat.reduceLeDiff,Nat.reduceLT,↓reduceIte,Int.reduceToNat,reduceCtorEq,Int.reduceLT,Int.reduceLE,Int.reduceGT,Int.reduceGE,Int.reduceEq,Int.reduceNe,Int.reduceNeg,Int.reduceAdd,Int.reduceSub]
        refine fin 70 _ (Pd.chk_no (bad fun h => ?_)).symm
        have := (h x hx).1.brk
        rw [hb] at this
        cases this
        exact absurd rfl c7
      · simp only [go_sem,Nat.reduceAdd,Nat.reduceSub,Nat.reduceMul,Nat.reduceEqDiff,Nat.reduceLeDiff,Nat.reduceLT,↓reduceIte,Int.reduceToNat,reduceCtorEq,Int.reduceLT,Int.reduceLE,Int.reduceGT,Int.reduceGE,Int.reduceEq,Int.reduceNe,Int.reduceNeg,Int.reduceAdd,Int.reduceSub,e1]
        refine go (fun z hz => ?_) _ _ (Wk.drop (m := 1) (by simp [wkS, Ch.get]) (Nat.zero_le _) (by simp) (by simp [chLt, AV.lt]) rfl (by simp [Blk.lt, ltL, AV.lt]))
        rw [hx] at hz
        cases hz
        refine ⟨⟨by omega, by omega, by omega, by omega, ?_⟩, hadj⟩
        rw [hb]
        have : (b.toNat : Int) = 204 := Decidable.not_not.1 c7
        exact congrArg some (UInt8.toNat_inj.1 (show b.toNat = (204 : UInt8).toNat by simp; omega))
  · simp only [go_sem,Nat.reduceAdd,Nat.reduceSub,Nat.reduceMul,Nat.reduceEqDiff,Nat.reduceLeDiff,Nat.reduceLT,↓reduceIte,Int.reduceToNat,reduceCtorEq,Int.reduceLT,Int.reduceLE,Int.reduceGT,Int.reduceGE,Int.reduceEq,Int.reduceNe,Int.reduceNeg,Int.reduceAdd,Int.reduceSub]
    have : i = p.l.length := by omega
    subst this
    have hall := okAt_all.1 ha
    refine rK_use (enters_of Tryz.func50 rfl (by decide)) (ACalls.pure_use (clean_c p ⟨by have := hs.p32; omega, by omega, by omega⟩ fun y hy => ⟨(hall.2 y hy).a0, (hall.2 y hy).a1⟩) rfl rfl) ?_
    have hcs : p.clean.ok := putL_ok _ _ hs
    simp only [go_sem,Nat.reduceAdd,Nat.reduceSub,Nat.reduceMul,Nat.reduceEqDiff,Nat.reduceLeDiff,Nat.reduceLT,↓reduceIte,Int.reduceToNat,reduceCtorEq,Int.reduceLT,Int.reduceLE,Int.reduceGT,Int.reduceGE,Int.reduceEq,Int.reduceNe,Int.reduceNeg,Int.reduceAdd,Int.reduceSub,Sp.av]
    refine rK_use (enters_of Tryz.func62 rfl (by decide)) ((contains_c p.clean hcs p.l (by omega)).useE [1] (.bool (decide (0 ≤ bad0 p.clean p.l 0))) [.rows 3 [[.view false 1 (p.s.perm.map r1), .view false 1 (p.s.byt.map rb), .view false 3 (p.l.map rp)]], spB (.view false 1 (p.clean.perm.map r1)) (.view false 1 (p.clean.byt.map rb))] (by simp) rfl (by simp) rfl rfl rfl rfl) ?_
    simp only [go_sem,Nat.reduceAdd,Nat.reduceSub,Nat.reduceMul,Nat.reduceEqDiff,Nat.reduceLeDiff,Nat.reduceLT,↓reduceIte,Int.reduceToNat,reduceCtorEq,Int.reduceLT,Int.reduceLE,Int.reduceGT,Int.reduceGE,Int.reduceEq,Int.reduceNe,Int.reduceNeg,Int.reduceAdd,Int.reduceSub]
    have hbd := bad0_lt p.clean p.l 0
    refine condD_dec (fun hz => ?_) (fun hz => ?_)
    · simp only [go_sem,Nat.reduceAdd,Nat.reduceSub,Nat.reduceMul,Nat.reduceEqDiff,Nat.reduceLeDiff,Nat.reduceLT,↓reduceIte,Int.reduceToNat,reduceCtorEq,Int.reduceLT,Int.reduceLE,Int.reduceGT,Int.reduceGE,Int.reduceEq,Int.reduceNe,Int.reduceNeg,Int.reduceAdd,Int.reduceSub]
      exact fin 70 _ (Pd.chk_no fun h => by have := hbd.2 h.std; omega).symm
    · simp only [go_sem,Nat.reduceAdd,Nat.reduceSub,Nat.reduceMul,Nat.reduceEqDiff,Nat.reduceLeDiff,Nat.reduceLT,↓reduceIte,Int.reduceToNat,reduceCtorEq,Int.reduceLT,Int.reduceLE,Int.reduceGT,Int.reduceGE,Int.reduceEq,Int.reduceNe,Int.reduceNeg,Int.reduceAdd,Int.reduceSub]
      exact fin 0 _ (Pd.chk_ok ⟨hs, by omega, hall.1, hall.2, hbd.1 (by omega)⟩).symm
end Go.Proofs.YtfiflailjbmlpaaGreatDoor
set_option maxRecDepth 100000
set_option linter.unusedVariables false
set_option linter.unusedSimpArgs false
namespace Go.Proofs.YtfiflailjbmlpaaGreatDoor
open Go.AM
def sameS (a b : Sp) : Bool := decide (a.perm = b.perm) && decide (a.byt = b.byt)
theorem sameS_self (a : Sp) : sameS a a = true := by simp [sameS]
end Go.Proofs.YtfiflailjbmlpaaGreatDoor
set_option maxRecDepth 100000
set_option linter.unusedVariables false
set_option linter.unusedSimpArgs false
namespace Go.Proofs.YtfiflailjbmlpaaGreatDoor
open Go.AM
instance : DecidableEq Pt := fun a b => decidable_of_iff (a.at_ = b.at_ ∧ a.old = b.old ∧ a.n = b.n) (by cases a; cases b; simp)
theorem eqI_c (a b : List Int) (ha : a.length ≤ 9223372036854775807) : ACalls Tryz.prog 68 [.view false 1 (a.map r1), .view false 1 (b.map r1)] [] (fun o H => o = .ret (.bool (decide (a = b))) ∧ H = []) := by
  refine ACalls.up ?_
  refine ACalls.intro (cs := []) (n := 26) Tryz.func68 rfl rfl rfl (by kernel_rfl) rfl ?_
  generalize hpost : (fun (o : Out) (H : Heap) => o = Out.ret (.bool (decide (a = b))) ∧ H = []) = post
  have fin : ∀ v H, v = decide (a = b) → Up 0 post (.ret (.bool v)) H := fun v H h => finv rfl (by rw [← hpost, ← h]; exact ⟨rfl, rfl⟩) H
  simp only [go_sem,Nat.reduceAdd,Nat.reduceSub,Nat.reduceMul,Nat.reduceEqDiff,Nat.reduceLeDiff,Nat.reduceLT,↓reduceIte,Int.reduceToNat,reduceCtorEq,Int.reduceLT,Int.reduceLE,Int.reduceGT,Int.reduceGE,Int.reduceEq,Int.reduceNe,Int.reduceNeg,Int.reduceAdd,Int.reduceSub,List.length_map]
  rcases Decidable.em ((a.length : Int) = b.length) with hl | hl
  rotate_left
  · simp only [go_sem,Nat.reduceAdd,Nat.reduceSub,Nat.reduceMul,Nat.reduceEqDiff,Nat.reduceLeDiff,Nat.reduceLT,↓reduceIte,Int.reduceToNat,reduceCtorEq,Int.reduceLT,Int.reduceLE,Int.reduceGT,Int.reduceGE,Int.reduceEq,Int.reduceNe,Int.reduceNeg,Int.reduceAdd,Int.reduceSub,eq_false hl]
    exact fin false _ (decide_eq_false fun h => hl (by rw [h])).symm
  simp only [go_sem,Nat.reduceAdd,Nat.reduceSub,Nat.reduceMul,Nat.reduceEqDiff,Nat.reduceLeDiff,Nat.reduceLT,↓reduceIte,Int.reduceToNat,reduceCtorEq,Int.reduceLT,Int.reduceLE,Int.reduceGT,Int.reduceGE,Int.reduceEq,Int.reduceNe,Int.reduceNeg,Int.reduceAdd,Int.reduceSub,eq_true hl,List.length_map]
  refine loop_fam (fun i : Nat => ((((Ch.nil.put 0 (.view false 1 (a.map r1))).put 1 (.view false 1 (b.map r1))).put 12 (iv a.length)).put 13 (iv i))) (fun _ => [])
    (fun i => a.length - i) (fun i => i ≤ a.length ∧ a.take i = b.take i) 0 (by kernel_rfl) ⟨Nat.zero_le _, by simp⟩ (Wk.slots' rfl (by simp [wkS, Ch.get])) ?_
  rintro i ⟨hi, hsm⟩ K hK
  simp only [go_sem,Nat.reduceAdd,Nat.reduceSub,Nat.reduceMul,Nat.reduceEqDiff,Nat.reduceLeDiff,Nat.reduceLT,↓reduceIte,Int.reduceToNat,reduceCtorEq,Int.reduceLT,Int.reduceLE,Int.reduceGT,Int.reduceGE,Int.reduceEq,Int.reduceNe,Int.reduceNeg,Int.reduceAdd,Int.reduceSub]
  refine condD_dec (fun hc => ?_) (fun hc => ?_)
  · obtain ⟨x, hx⟩ := at_lt (l := a) (i := i) (by omega)
    obtain ⟨y, hy⟩ := at_lt (l := b) (i := i) (by omega)
    have e1 : iw .i64 ((i : Int) + 1) = ((i + 1 : Nat) : Int) := by rw [iw64] <;> omega
    have g1 : (0 : Int) ≤ i ∧ (i : Int) < a.length := ⟨by omega, by omega⟩
    have g2 : (0 : Int) ≤ i ∧ (i : Int) < b.length := ⟨by omega, by omega⟩
    simp only [go_sem,Nat.reduceAdd,Nat.reduceSub,Nat.reduceMul,Nat.reduceEqDiff,Nat.reduceLeDiff,Nat.reduceLT,↓reduceIte,Int.reduceToNat,reduceCtorEq,Int.reduceLT,Int.reduceLE,Int.reduceGT,Int.reduceGE,Int.reduceEq,Int.reduceNe,Int.reduceNeg,Int.reduceAdd,Int.reduceSub]
    refine draw [.qu 0 0, .qu 0 0, .qu 0 0, .qu 0 0, .qu 0 0, .qu 0 0, .qu 0 0, .qu 0 0, .qu 0 0] (by kernel_rfl) (by kernel_rfl) ?_
    simp only [go_sem,Nat.reduceAdd,Nat.reduceSub,Nat.reduceMul,Nat.reduceEqDiff,Nat.reduceLeDiff,Nat.reduceLT,↓reduceIte,Int.reduceToNat,reduceCtorEq,Int.reduceLT,Int.reduceLE,Int.reduceGT,Int.reduceGE,Int.reduceEq,Int.reduceNe,Int.reduceNeg,Int.reduceAdd,Int.reduceSub,hx,hy,List.getElem?_map,List.length_map,g1,g2]
    have same : x = y → ∀ s' H', Wk 0 26 s' H' ((((Ch.nil.put 0 (.view false 1 (a.map r1))).put 1 (.view false 1 (b.map r1))).put 12 (iv a.length)).put 13 (iv (i + 1 : Nat))) [] → K s' H' := fun hxy s' H' hw =>
      hK (i + 1) s' H' ⟨by omega, by rw [List.take_add_one, List.take_add_one, hsm, hx, hy, hxy]⟩ (by omega) hw
    have diff : x ≠ y → decide (a = b) = false := fun hxy => decide_eq_false fun h => hxy (by rw [h, hy] at hx; exact (Option.some.inj hx).symm)
    rcases Decidable.em (x = y) with hxy | hxy
    · subst hxy
      simp only [go_sem,Nat.reduceAdd,Nat.reduceSub,Nat.reduceMul,Nat.reduceEqDiff,Nat.reduceLeDiff,Nat.reduceLT,↓reduceIte,Int.reduceToNat,reduceCtorEq,Int.reduceLT,Int.reduceLE,Int.reduceGT,Int.reduceGE,Int.reduceEq,Int.reduceNe,Int.reduceNeg,Int.reduceAdd,Int.reduceSub,e1]
      exact same rfl _ _ (Wk.slots' rfl (by simp [wkS, Ch.get]))
    · simp only [go_sem,Nat.reduceAdd,Nat.reduceSub,Nat.reduceMul,Nat.reduceEqDiff,Nat.reduceLeDiff,Nat.reduceLT,↓reduceIte,Int.reduceToNat,reduceCtorEq,Int.reduceLT,Int.reduceLE,Int.reduceGT,Int.reduceGE,Int.reduceEq,Int.reduceNe,Int.reduceNeg,Int.reduceAdd,Int.reduceSub,eq_false hxy]
      exact fin false _ (diff hxy).symm
  · simp only [go_sem,Nat.reduceAdd,Nat.reduceSub,Nat.reduceMul,Nat.reduceEqDiff,Nat.reduceLeDiff,Nat.reduceLT,↓reduceIte,Int.reduceToNat,reduceCtorEq,Int.reduceLT,Int.reduceLE,Int.reduceGT,Int.reduceGE,Int.reduceEq,Int.reduceNe,Int.reduceNeg,Int.reduceAdd,Int.reduceSub]
    have : i = a.length := by omega
    subst this
    rw [List.take_length, List.take_of_length_le (by omega)] at hsm
    exact fin true _ (decide_eq_true hsm).symm
theorem eqB_c (a b : List UInt8) (ha : a.length ≤ 9223372036854775807) : ACalls Tryz.prog 69 [.view false 1 (a.map rb), .view false 1 (b.map rb)] [] (fun o H => o = .ret (.bool (decide (a = b))) ∧ H = []) := by
  refine ACalls.up ?_
  refine ACalls.intro (cs := []) (n := 26) Tryz.func69 rfl rfl rfl (by kernel_rfl) rfl ?_
  generalize hpost : (fun (o : Out) (H : Heap) => o = Out.ret (.bool (decide (a = b))) ∧ H = []) = post
  have fin : ∀ v H, v = decide (a = b) → Up 0 post (.ret (.bool v)) H := fun v H h => finv rfl (by rw [← hpost, ← h]; exact ⟨rfl, rfl⟩) H
  simp only [go_sem,Nat.reduceAdd,Nat.reduceSub,Nat.reduceMul,Nat.reduceEqDiff,Nat.reduceLeDiff,Nat.reduceLT,↓reduceIte,Int.reduceToNat,reduceCtorEq,Int.reduceLT,Int.reduceLE,Int.reduceGT,Int.reduceGE,Int.reduceEq,Int.reduceNe,Int.reduceNeg,Int.reduceAdd,Int.reduceSub,List.length_map]
  rcases Decidable.em ((a.length : Int) = b.length) with hl | hl
  rotate_left
  · simp only [go_sem,Nat.reduceAdd,Nat.reduceSub,Nat.reduceMul,Nat.reduceEqDiff,Nat.reduceLeDiff,Nat.reduceLT,↓reduceIte,Int.reduceToNat,reduceCtorEq,Int.reduceLT,Int.reduceLE,Int.reduceGT,Int.reduceGE,Int.reduceEq,Int.reduceNe,Int.reduceNeg,Int.reduceAdd,Int.reduceSub,eq_false hl]
    exact fin false _ (decide_eq_false fun h => hl (by rw [h])).symm
  simp only [go_sem,Nat.reduceAdd,Nat.reduceSub,Nat.reduceMul,Nat.reduceEqDiff,Nat.reduceLeDiff,Nat.reduceLT,↓reduceIte,Int.reduceToNat,reduceCtorEq,Int.reduceLT,Int.reduceLE,Int.reduceGT,Int.reduceGE,Int.reduceEq,Int.reduceNe,Int.reduceNeg,Int.reduceAdd,Int.reduceSub,eq_true hl,List.length_map]
  refine loop_fam (fun i : Nat => ((((Ch.nil.put 0 (.view false 1 (a.map rb))).put 1 (.view false 1 (b.map rb))).put 12 (iv a.length)).put 13 (iv i))) (fun _ => [])
    (fun i => a.length - i) (fun i => i ≤ a.length ∧ a.take i = b.take i) 0 (by kernel_rfl) ⟨Nat.zero_le _, by simp⟩ (Wk.slots' rfl (by simp [wkS, Ch.get])) ?_
  rintro i ⟨hi, hsm⟩ K hK
  simp only [go_sem,Nat.reduceAdd,Nat.reduceSub,Nat.reduceMul,Nat.reduceEqDiff,Nat.reduceLeDiff,Nat.reduceLT,↓reduceIte,Int.reduceToNat,reduceCtorEq,Int.reduceLT,Int.reduceLE,Int.reduceGT,Int.reduceGE,Int.reduceEq,Int.reduceNe,Int.reduceNeg,Int.reduceAdd,Int.reduceSub]
  refine condD_dec (fun hc => ?_) (fun hc => ?_)
  · obtain ⟨x, hx⟩ := at_lt (l := a) (i := i) (by omega)
    obtain ⟨y, hy⟩ := at_lt (l := b) (i := i) (by omega)
    have e1 : iw .i64 ((i : Int) + 1) = ((i + 1 : Nat) : Int) := by rw [iw64] <;> omega
    have g1 : (0 : Int) ≤ i ∧ (i : Int) < a.length := ⟨by omega, by omega⟩
    have g2 : (0 : Int) ≤ i ∧ (i : Int) < b.length := ⟨by omega, by omega⟩
    simp only [go_sem,Nat.reduceAdd,Nat.reduceSub,Nat.reduceMul,Nat.reduceEqDiff,Nat.reduceLeDiff,Nat.reduceLT,↓reduceIte,Int.reduceToNat,reduceCtorEq,Int.reduceLT,Int.reduceLE,Int.reduceGT,Int.reduceGE,Int.reduceEq,Int.reduceNe,Int.reduceNeg,Int.reduceAdd,Int.reduceSub]
    refine draw [.qu 0 0, .qu 0 0, .qu 0 0, .qu 0 0, .qu 0 0, .qu 0 0, .qu 0 0, .qu 0 0, .qu 0 0] (by kernel_rfl) (by kernel_rfl) ?_
    simp only [go_sem,Nat.reduceAdd,Nat.reduceSub,Nat.reduceMul,Nat.reduceEqDiff,Nat.reduceLeDiff,Nat.reduceLT,↓reduceIte,Int.reduceToNat,reduceCtorEq,Int.reduceLT,Int.reduceLE,Int.reduceGT,Int.reduceGE,Int.reduceEq,Int.reduceNe,Int.reduceNeg,Int.reduceAdd,Int.reduceSub,hx,hy,List.getElem?_map,List.length_map,g1,g2]
    have same : x = y → ∀ s' H', Wk 0 26 s' H' ((((Ch.nil.put 0 (.view false 1 (a.map rb))).put 1 (.view false 1 (b.map rb))).put 12 (iv a.length)).put 13 (iv (i + 1 : Nat))) [] → K s' H' := fun hxy s' H' hw =>
      hK (i + 1) s' H' ⟨by omega, by rw [List.take_add_one, List.take_add_one, hsm, hx, hy, hxy]⟩ (by omega) hw
    have diff : x ≠ y → decide (a = b) = false := fun hxy => decide_eq_false fun h => hxy (by rw [h, hy] at hx; exact (Option.some.inj hx).symm)
    rcases Decidable.em (x = y) with hxy | hxy
    · subst hxy
      simp only [go_sem,Nat.reduceAdd,Nat.reduceSub,Nat.reduceMul,Nat.reduceEqDiff,Nat.reduceLeDiff,Nat.reduceLT,↓reduceIte,Int.reduceToNat,reduceCtorEq,Int.reduceLT,Int.reduceLE,Int.reduceGT,Int.reduceGE,Int.reduceEq,Int.reduceNe,Int.reduceNeg,Int.reduceAdd,Int.reduceSub,e1]
      exact same rfl _ _ (Wk.slots' rfl (by simp [wkS, Ch.get]))
    · have hne : ¬ ((x.toNat : Int) = y.toNat) := fun h => hxy (UInt8.toNat_inj.1 (by omega))
      simp only [go_sem,Nat.reduceAdd,Nat.reduceSub,Nat.reduceMul,Nat.reduceEqDiff,Nat.reduceLeDiff,Nat.reduceLT,↓reduceIte,Int.reduceToNat,reduceCtorEq,Int.reduceLT,Int.reduceLE,Int.reduceGT,Int.reduceGE,Int.reduceEq,Int.reduceNe,Int.reduceNeg,Int.reduceAdd,Int.reduceSub,eq_false hne]
      exact fin false _ (diff hxy).symm
  · simp only [go_sem,Nat.reduceAdd,Nat.reduceSub,Nat.reduceMul,Nat.reduceEqDiff,Nat.reduceLeDiff,Nat.reduceLT,↓reduceIte,Int.reduceToNat,reduceCtorEq,Int.reduceLT,Int.reduceLE,Int.reduceGT,Int.reduceGE,Int.reduceEq,Int.reduceNe,Int.reduceNeg,Int.reduceAdd,Int.reduceSub]
    have : i = a.length := by omega
    subst this
    rw [List.take_length, List.take_of_length_le (by omega)] at hsm
    exact fin true _ (decide_eq_true hsm).symm
theorem msame_c (a b : Sp) (h1 : a.perm.length ≤ 9223372036854775807) (h2 : a.byt.length ≤ 9223372036854775807) : ACalls Tryz.prog 32 [a.av, b.av] [] (fun o H => o = .ret (.bool (sameS a b)) ∧ H = []) := by
  refine ACalls.up ?_
  refine ACalls.intro (cs := []) (n := 17) Tryz.func32 rfl rfl rfl (by kernel_rfl) rfl ?_
  generalize hpost : (fun (o : Out) (H : Heap) => o = Out.ret (.bool (sameS a b)) ∧ H = []) = post
  have fin : ∀ v H, v = sameS a b → Up 0 post (.ret (.bool v)) H := fun v H h => finv rfl (by rw [← hpost, ← h]; exact ⟨rfl, rfl⟩) H
  simp only [go_sem,Nat.reduceAdd,Nat.reduceSub,Nat.reduceMul,Nat.reduceEqDiff,Nat.reduceLeDiff,Nat.reduceLT,↓reduceIte,Int.reduceToNat,reduceCtorEq,Int.reduceLT,Int.reduceLE,Int.reduceGT,Int.reduceGE,Int.reduceEq,Int.reduceNe,Int.reduceNeg,Int.reduceAdd,Int.reduceSub,Sp.av]
  refine rK_use (enters_of Tryz.func68 rfl (by decide)) (ACalls.pure_use (eqI_c a.perm b.perm h1) rfl rfl) ?_
  rcases Decidable.em (a.perm = b.perm) with hp | hp
  · simp only [go_sem,Nat.reduceAdd,Nat.reduceSub,Nat.reduceMul,Nat.reduceEqDiff,Nat.reduceLeDiff,Nat.reduceLT,↓reduceIte,Int.reduceToNat,reduceCtorEq,Int.reduceLT,Int.reduceLE,Int.reduceGT,Int.reduceGE,Int.reduceEq,Int.reduceNe,Int.reduceNeg,Int.reduceAdd,Int.reduceSub,decide_eq_true hp]
    refine rK_use (enters_of Tryz.func69 rfl (by decide)) (ACalls.pure_use (eqB_c a.byt b.byt h2) rfl rfl) ?_
    simp only [go_sem,Nat.reduceAdd,Nat.reduceSub,Nat.reduceMul,Nat.reduceEqDiff,Nat.reduceLeDiff,Nat.reduceLT,↓reduceIte,Int.reduceToNat,reduceCtorEq,Int.reduceLT,Int.reduceLE,Int.reduceGT,Int.reduceGE,Int.reduceEq,Int.reduceNe,Int.reduceNeg,Int.reduceAdd,Int.reduceSub]
    exact fin _ _ (by rw [sameS, decide_eq_true hp, Bool.true_and])
  · simp only [go_sem,Nat.reduceAdd,Nat.reduceSub,Nat.reduceMul,Nat.reduceEqDiff,Nat.reduceLeDiff,Nat.reduceLT,↓reduceIte,Int.reduceToNat,reduceCtorEq,Int.reduceLT,Int.reduceLE,Int.reduceGT,Int.reduceGE,Int.reduceEq,Int.reduceNe,Int.reduceNeg,Int.reduceAdd,Int.reduceSub,decide_eq_false hp]
    exact fin _ _ (by rw [sameS, decide_eq_false hp, Bool.false_and])
end Go.Proofs.YtfiflailjbmlpaaGreatDoor
set_option maxRecDepth 100000
set_option linter.unusedVariables false
set_option linter.unusedSimpArgs false
namespace Go.Proofs.YtfiflailjbmlpaaGreatDoor
open Go.AM
theorem immD_eq (i a b : Int) : iw .i64 (iw .i64 (i + a) - b) = immD i a b := by
  unfold immD
  refine iw_congr ?_
  rw [iwi64, iwi64]
  omega
theorem displaced_c (x : Ins) (a b : Int) : ACalls Tryz.prog 52 [x.av, iv a, iv b] [] (fun o H => o = .ret (.tuple [(dispE x a b).1.av, iv (dispE x a b).2]) ∧ H = []) := by
  refine ACalls.up ?_
  refine ACalls.intro (cs := []) (n := 49) Tryz.func52 rfl rfl rfl (by kernel_rfl) rfl ?_
  generalize hpost : (fun (o : Out) (H : Heap) => o = Out.ret (.tuple [(dispE x a b).1.av, iv (dispE x a b).2]) ∧ H = []) = post
  have fin : ∀ y n H, (y, n) = dispE x a b → Up 0 post (.ret (.tuple [.agg y.cells, iv n])) H := fun y n H h => finv rfl (by rw [← hpost, ← h]; exact ⟨rfl, rfl⟩) H
  obtain ⟨op, xa, xb, imm⟩ := x
  have e1 := immD_eq imm a b
  have e2 : iw .i64 (imm + iw .i64 (a - b)) = immD imm a b := rfl
  have hok := Decidable.em (Ins.ok ⟨op, xa, xb, immD imm a b⟩)
  have hck := icheck_c ⟨op, xa, xb, immD imm a b⟩
  have k0 : Ins.ok ⟨op, xa, xb, immD imm a b⟩ → Ins.chk ⟨op, xa, xb, immD imm a b⟩ = 0 := fun h => if_pos h
  have k1 : ¬ Ins.ok ⟨op, xa, xb, immD imm a b⟩ → Ins.chk ⟨op, xa, xb, immD imm a b⟩ = 20 := fun h => if_neg h
  have f2 := fin ⟨op, xa, xb, immD imm a b⟩ 2
  have f3 := fin ⟨op, xa, xb, imm⟩ 3
  by_cases h1 : op = 27 ∨ op = 28 ∨ op = 33 ∨ op = 76
  · have hf : ((⟨op, xa, xb, imm⟩ : Ins), (3 : Int)) = dispE ⟨op, xa, xb, imm⟩ a b := by rw [dispE, if_pos h1]
    rcases h1 with rfl | rfl | rfl | rfl
    all_goals
      simp only [go_sem,Nat.reduceAdd,Nat.reduceSub,Nat.reduceMul,Nat.reduceEqDiff,Nat.reduceLeDiff,Nat.reduceLT,↓reduceIte,Int.reduceToNat,reduceCtorEq,Int.reduceLT,Int.reduceLE,Int.reduceGT,Int.reduceGE,Int.reduceEq,Int.reduceNe,Int.reduceNeg,Int.reduceAdd,Int.reduceSub,Ins.av,Ins.cells]
      exact fin _ _ _ hf
  by_cases h2 : 21 ≤ op ∧ op ≤ 25
  · have h2' : op = 21 ∨ op = 22 ∨ op = 23 ∨ op = 24 ∨ op = 25 := by omega
    rcases h2' with rfl | rfl | rfl | rfl | rfl
    all_goals
      simp only [go_sem,Nat.reduceAdd,Nat.reduceSub,Nat.reduceMul,Nat.reduceEqDiff,Nat.reduceLeDiff,Nat.reduceLT,↓reduceIte,Int.reduceToNat,reduceCtorEq,Int.reduceLT,Int.reduceLE,Int.reduceGT,Int.reduceGE,Int.reduceEq,Int.reduceNe,Int.reduceNeg,Int.reduceAdd,Int.reduceSub,Ins.av,Ins.cells,e1]
      refine condD_dec (fun hz => ?_) (fun hz => ?_)
      · simp only [go_sem,Nat.reduceAdd,Nat.reduceSub,Nat.reduceMul,Nat.reduceEqDiff,Nat.reduceLeDiff,Nat.reduceLT,↓reduceIte,Int.reduceToNat,reduceCtorEq,Int.reduceLT,Int.reduceLE,Int.reduceGT,Int.reduceGE,Int.reduceEq,Int.reduceNe,Int.reduceNeg,Int.reduceAdd,Int.reduceSub]
        exact fin _ _ _ (by rw [dispE, if_neg h1, if_pos ⟨by simp, by simp, hz⟩])
      · simp only [go_sem,Nat.reduceAdd,Nat.reduceSub,Nat.reduceMul,Nat.reduceEqDiff,Nat.reduceLeDiff,Nat.reduceLT,↓reduceIte,Int.reduceToNat,reduceCtorEq,Int.reduceLT,Int.reduceLE,Int.reduceGT,Int.reduceGE,Int.reduceEq,Int.reduceNe,Int.reduceNeg,Int.reduceAdd,Int.reduceSub,e2]
        refine rK_use (enters_of Tryz.func51 rfl (by decide)) (ACalls.pure_use hck rfl rfl) ?_
        rcases hok with hk | hk
        · rw [k0 hk]
          simp only [go_sem,Nat.reduceAdd,Nat.reduceSub,Nat.reduceMul,Nat.reduceEqDiff,Nat.reduceLeDiff,Nat.reduceLT,↓reduceIte,Int.reduceToNat,reduceCtorEq,Int.reduceLT,Int.reduceLE,Int.reduceGT,Int.reduceGE,Int.reduceEq,Int.reduceNe,Int.reduceNeg,Int.reduceAdd,Int.reduceSub]
          exact f2 _ (by rw [dispE, if_neg h1, if_neg (by first | exact fun h => hz h.2.2 | exact fun h => absurd h.2.1 (by simp)), if_pos (by simp)]; exact (if_pos hk).symm)
        · rw [k1 hk]
          simp only [go_sem,Nat.reduceAdd,Nat.reduceSub,Nat.reduceMul,Nat.reduceEqDiff,Nat.reduceLeDiff,Nat.reduceLT,↓reduceIte,Int.reduceToNat,reduceCtorEq,Int.reduceLT,Int.reduceLE,Int.reduceGT,Int.reduceGE,Int.reduceEq,Int.reduceNe,Int.reduceNeg,Int.reduceAdd,Int.reduceSub]
          exact f3 _ (by rw [dispE, if_neg h1, if_neg (by first | exact fun h => hz h.2.2 | exact fun h => absurd h.2.1 (by simp)), if_pos (by simp)]; exact (if_neg hk).symm)
  by_cases h4 : op = 32
  · subst h4
    simp only [go_sem,Nat.reduceAdd,Nat.reduceSub,Nat.reduceMul,Nat.reduceEqDiff,Nat.reduceLeDiff,Nat.reduceLT,↓reduceIte,Int.reduceToNat,reduceCtorEq,Int.reduceLT,Int.reduceLE,Int.reduceGT,Int.reduceGE,Int.reduceEq,Int.reduceNe,Int.reduceNeg,Int.reduceAdd,Int.reduceSub,Ins.av,Ins.cells,e2]
    refine rK_use (enters_of Tryz.func51 rfl (by decide)) (ACalls.pure_use hck rfl rfl) ?_
    rcases hok with hk | hk
    · rw [k0 hk]
      simp only [go_sem,Nat.reduceAdd,Nat.reduceSub,Nat.reduceMul,Nat.reduceEqDiff,Nat.reduceLeDiff,Nat.reduceLT,↓reduceIte,Int.reduceToNat,reduceCtorEq,Int.reduceLT,Int.reduceLE,Int.reduceGT,Int.reduceGE,Int.reduceEq,Int.reduceNe,Int.reduceNeg,Int.reduceAdd,Int.reduceSub]
      exact f2 _ (by rw [dispE, if_neg h1, if_neg (by first | exact fun h => hz h.2.2 | exact fun h => absurd h.2.1 (by simp)), if_pos (by simp)]; exact (if_pos hk).symm)
    · rw [k1 hk]
      simp only [go_sem,Nat.reduceAdd,Nat.reduceSub,Nat.reduceMul,Nat.reduceEqDiff,Nat.reduceLeDiff,Nat.reduceLT,↓reduceIte,Int.reduceToNat,reduceCtorEq,Int.reduceLT,Int.reduceLE,Int.reduceGT,Int.reduceGE,Int.reduceEq,Int.reduceNe,Int.reduceNeg,Int.reduceAdd,Int.reduceSub]
      exact f3 _ (by rw [dispE, if_neg h1, if_neg (by first | exact fun h => hz h.2.2 | exact fun h => absurd h.2.1 (by simp)), if_pos (by simp)]; exact (if_neg hk).symm)
  · have q1 : ¬ op = 27 := by omega
    have q2 : ¬ op = 28 := by omega
    have q3 : ¬ op = 33 := by omega
    have q4 : ¬ op = 76 := by omega
    have q5 : ¬ op = 21 := by omega
    have q6 : ¬ op = 22 := by omega
    have q7 : ¬ op = 23 := by omega
    have q8 : ¬ op = 24 := by omega
    have q9 : ¬ op = 25 := by omega
    simp only [go_sem,Nat.reduceAdd,Nat.reduceSub,Nat.reduceMul,Nat.reduceEqDiff,Nat.reduceLeDiff,Nat.reduceLT,↓reduceIte,Int.reduceToNat,reduceCtorEq,Int.reduceLT,Int.reduceLE,Int.reduceGT,Int.reduceGE,Int.reduceEq,Int.reduceNe,Int.reduceNeg,Int.reduceAdd,Int.reduceSub,Ins.av,Ins.cells,q1,q2,q3,q4,q5,q6,q7,q8,q9,h4]
    exact fin ⟨op, xa, xb, imm⟩ 1 _ (by rw [dispE, if_neg h1, if_neg (fun h => h2 ⟨h.1, h.2.1⟩), if_neg (fun h => h.elim h2 h4)])
theorem Displace_c (x : Ins) (hx : x.ok) (a b : Int) : ACalls Tryz.prog 15 [x.av, iv a, iv b] [] (fun o H => o = .ret (.tuple [(dispE x a b).1.av, iv (dispE x a b).2, iv 0]) ∧ H = []) := by
  refine ACalls.up ?_
  refine ACalls.intro (cs := []) (n := 27) Tryz.func15 rfl rfl rfl (by kernel_rfl) rfl ?_
  generalize hpost : (fun (o : Out) (H : Heap) => o = Out.ret (.tuple [(dispE x a b).1.av, iv (dispE x a b).2, iv 0]) ∧ H = []) = post
  simp only [go_sem,Nat.reduceAdd,Nat.reduceSub,Nat.reduceMul,Nat.reduceEqDiff,Nat.reduceLeDiff,Nat.reduceLT,↓reduceIte,Int.reduceToNat,reduceCtorEq,Int.reduceLT,Int.reduceLE,Int.reduceGT,Int.reduceGE,Int.reduceEq,Int.reduceNe,Int.reduceNeg,Int.reduceAdd,Int.reduceSub,Ins.av,Ins.cells]
  refine rK_use (enters_of Tryz.func51 rfl (by decide)) (ACalls.pure_use (icheck_c x) rfl rfl) ?_
  rw [Ins.chk, if_pos hx]
  simp only [go_sem,Nat.reduceAdd,Nat.reduceSub,Nat.reduceMul,Nat.reduceEqDiff,Nat.reduceLeDiff,Nat.reduceLT,↓reduceIte,Int.reduceToNat,reduceCtorEq,Int.reduceLT,Int.reduceLE,Int.reduceGT,Int.reduceGE,Int.reduceEq,Int.reduceNe,Int.reduceNeg,Int.reduceAdd,Int.reduceSub]
  refine rK_use (enters_of Tryz.func52 rfl (by decide)) (ACalls.pure_use (displaced_c x a b) rfl rfl) ?_
  simp only [go_sem,Nat.reduceAdd,Nat.reduceSub,Nat.reduceMul,Nat.reduceEqDiff,Nat.reduceLeDiff,Nat.reduceLT,↓reduceIte,Int.reduceToNat,reduceCtorEq,Int.reduceLT,Int.reduceLE,Int.reduceGT,Int.reduceGE,Int.reduceEq,Int.reduceNe,Int.reduceNeg,Int.reduceAdd,Int.reduceSub,Ins.av,Ins.cells]
  refine finv rfl ?_ _
  rw [← hpost]
  exact ⟨rfl, rfl⟩
theorem Clean_c (p : Pd) (h : p.ok) : ACalls Tryz.prog 20 [p.av] [] (fun o H => o = .ret (.tuple [p.clean.av, iv 0]) ∧ H = []) := by
  refine ACalls.up ?_
  refine ACalls.intro (cs := []) (n := 13) Tryz.func20 rfl rfl rfl (by kernel_rfl) rfl ?_
  generalize hpost : (fun (o : Out) (H : Heap) => o = Out.ret (.tuple [p.clean.av, iv 0]) ∧ H = []) = post
  simp only [go_sem,Nat.reduceAdd,Nat.reduceSub,Nat.reduceMul,Nat.reduceEqDiff,Nat.reduceLeDiff,Nat.reduceLT,↓reduceIte,Int.reduceToNat,reduceCtorEq,Int.reduceLT,Int.reduceLE,Int.reduceGT,Int.reduceGE,Int.reduceEq,Int.reduceNe,Int.reduceNeg,Int.reduceAdd,Int.reduceSub,Pd.av]
  refine rK_use (enters_of Tryz.func25 rfl (by decide)) (ACalls.pure_use (pcheck_c p) rfl rfl) ?_
  rw [Pd.chk_ok h]
  simp only [go_sem,Nat.reduceAdd,Nat.reduceSub,Nat.reduceMul,Nat.reduceEqDiff,Nat.reduceLeDiff,Nat.reduceLT,↓reduceIte,Int.reduceToNat,reduceCtorEq,Int.reduceLT,Int.reduceLE,Int.reduceGT,Int.reduceGE,Int.reduceEq,Int.reduceNe,Int.reduceNeg,Int.reduceAdd,Int.reduceSub]
  refine rK_use (enters_of Tryz.func50 rfl (by decide)) (ACalls.pure_use (clean_c p h.fit h.bounds) rfl rfl) ?_
  simp only [go_sem,Nat.reduceAdd,Nat.reduceSub,Nat.reduceMul,Nat.reduceEqDiff,Nat.reduceLeDiff,Nat.reduceLT,↓reduceIte,Int.reduceToNat,reduceCtorEq,Int.reduceLT,Int.reduceLE,Int.reduceGT,Int.reduceGE,Int.reduceEq,Int.reduceNe,Int.reduceNeg,Int.reduceAdd,Int.reduceSub,Sp.av]
  refine finv rfl ?_ _
  rw [← hpost]
  exact ⟨rfl, rfl⟩
theorem Clean_n (p : Pd) (h : ¬ p.ok) : ACalls Tryz.prog 20 [p.av] [] (fun o H => o = .ret (.tuple [sp0.av, iv 70]) ∧ H = []) := by
  refine ACalls.up ?_
  refine ACalls.intro (cs := []) (n := 13) Tryz.func20 rfl rfl rfl (by kernel_rfl) rfl ?_
  generalize hpost : (fun (o : Out) (H : Heap) => o = Out.ret (.tuple [sp0.av, iv 70]) ∧ H = []) = post
  simp only [go_sem,Nat.reduceAdd,Nat.reduceSub,Nat.reduceMul,Nat.reduceEqDiff,Nat.reduceLeDiff,Nat.reduceLT,↓reduceIte,Int.reduceToNat,reduceCtorEq,Int.reduceLT,Int.reduceLE,Int.reduceGT,Int.reduceGE,Int.reduceEq,Int.reduceNe,Int.reduceNeg,Int.reduceAdd,Int.reduceSub,Pd.av]
  refine rK_use (enters_of Tryz.func25 rfl (by decide)) (ACalls.pure_use (pcheck_c p) rfl rfl) ?_
  rw [Pd.chk_no h]
  simp only [go_sem,Nat.reduceAdd,Nat.reduceSub,Nat.reduceMul,Nat.reduceEqDiff,Nat.reduceLeDiff,Nat.reduceLT,↓reduceIte,Int.reduceToNat,reduceCtorEq,Int.reduceLT,Int.reduceLE,Int.reduceGT,Int.reduceGE,Int.reduceEq,Int.reduceNe,Int.reduceNeg,Int.reduceAdd,Int.reduceSub]
  refine .le (.ret (.tuple (.cons spN_le (.cons (.refl _) .nil)))) (LeH.refl _) (finv rfl ?_ _)
  rw [← hpost]
  exact ⟨rfl, rfl⟩
theorem fnd_cur (p : Pd) (a : Int) : fnd a p.l = (p.cur a).isSome := by
  unfold fnd Pd.cur
  cases p.l[lb a p.l]? with
  | none => rfl
  | some y =>
    simp only
    split
    · rename_i h; simp [h]
    · rename_i h; simp [h]
end Go.Proofs.YtfiflailjbmlpaaGreatDoor
set_option maxRecDepth 100000
set_option linter.unusedVariables false
set_option linter.unusedSimpArgs false
namespace Go.Proofs.YtfiflailjbmlpaaGreatDoor
open Go.AM
abbrev rz : List AV := [iv 0, .int .u8 0, iv 0]
theorem delete_c (l : List Pt) (i : Nat) (hi : i < l.length) (hl : l.length ≤ 1000) : ACalls Tryz.prog 59 [.sl 0 0 l.length none, iv i, iv ((i + 1 : Nat) : Int)] [.rows 3 (l.map rp)]
    (fun o H => o = .ret (.sl 0 0 (l.length - 1) none) ∧ H = [.rows 3 ((l.eraseIdx i).map rp ++ [rz])]) := by
  refine ACalls.caps fun c h1 h2 => ACalls.up ?_
  refine ACalls.intro (cs := []) (n := 33) Tryz.func59 rfl rfl rfl (by kernel_rfl) rfl ?_
  generalize hpost : (fun (o : Out) (H : Heap) => o = Out.ret (.sl 0 0 (l.length - 1) none) ∧ H = [.rows 3 ((l.eraseIdx i).map rp ++ [rz])]) = post
  have g1 : (0 : Int) ≤ i ∧ (i : Int) ≤ ((i + 1 : Nat) : Int) ∧ ((i + 1 : Nat) : Int) ≤ (l.length : Int) ∧ (l.length : Int) ≤ (c : Int) := ⟨by omega, by omega, by omega, by omega⟩
  have g2 : ¬ ((i : Int) = ((i + 1 : Nat) : Int)) := by omega
  simp only [go_sem,Nat.reduceAdd,Nat.reduceSub,Nat.reduceMul,Nat.reduceEqDiff,Nat.reduceLeDiff,Nat.reduceLT,↓reduceIte,Int.reduceToNat,reduceCtorEq,Int.reduceLT,Int.reduceLE,Int.reduceGT,Int.reduceGE,Int.reduceEq,Int.reduceNe,Int.reduceNeg,Int.reduceAdd,Int.reduceSub,g1,g2,Nat.sub_zero]
  refine draw [.qu 0 0, .qu 0 0, .qu 0 0, .qu 0 0, .qu 0 0, .qu 0 0, .mn 0, .qu 1 1] (by kernel_rfl) (by kernel_rfl) ?_
  have g3 : (i : Int) ≤ c ∧ (0 : Int) ≤ ((i + 1 : Nat) : Int) := ⟨by omega, by omega⟩
  have g4 : ¬ c = 0 := by omega
  have g5 : i ≤ l.length ∧ i + (l.length - (i + 1)) ≤ 68719476736 ∧ i + (l.length - (i + 1)) ≤ c := ⟨by omega, by omega, by omega⟩
  have e1 : ((l.map rp).drop (i + 1)).take (l.length - (i + 1)) = (l.drop (i + 1)).map rp := by
    rw [← List.map_drop, List.take_of_length_le (by simp)]
  have e2 : ((l.drop (i + 1)).map rp).length = l.length - (i + 1) := by simp
  simp only [go_sem,Nat.reduceAdd,Nat.reduceSub,Nat.reduceMul,Nat.reduceEqDiff,Nat.reduceLeDiff,Nat.reduceLT,↓reduceIte,Int.reduceToNat,reduceCtorEq,Int.reduceLT,Int.reduceLE,Int.reduceGT,Int.reduceGE,Int.reduceEq,Int.reduceNe,Int.reduceNeg,Int.reduceAdd,Int.reduceSub,g1,g3,g4,g5,Nat.sub_zero,e1,e2,List.length_map]
  have e3 : i + (l.length - (i + 1)) = l.length - 1 := by omega
  have e4 : (l.eraseIdx i).map rp = (l.map rp).take i ++ (l.drop (i + 1)).map rp := by
    rw [List.eraseIdx_eq_take_drop_succ, List.map_append, List.map_take]
  rw [e3]
  obtain ⟨R, hR⟩ : ∃ R, R = (l.map rp).take i ++ ((l.drop (i + 1)).map rp ++ (l.map rp).drop (l.length - 1)) := ⟨_, rfl⟩
  rw [← hR]
  have hRl : R.length = l.length := by rw [hR]; simp; omega
  have hR1 : R.take (l.length - 1) = (l.eraseIdx i).map rp := by
    rw [hR, ← List.append_assoc, ← e4, List.take_append_of_le_length (by simp [List.length_eraseIdx, hi]), List.take_of_length_le (by simp [List.length_eraseIdx, hi])]
  have g6 : (0 : Int) ≤ ((l.length - 1 : Nat) : Int) ∧ ((l.length - 1 : Nat) : Int) ≤ (l.length : Int) := ⟨by omega, by omega⟩
  have g7 : l.length - 1 + (l.length - (l.length - 1)) ≤ l.length ∧ l.length - (l.length - 1) = 1 := ⟨by omega, by omega⟩
  have g8 : l.length - 1 + 1 ≤ l.length := by omega
  have e5 : R.drop (l.length - 1 + 1) = [] := List.drop_of_length_le (by omega)
  simp only [go_sem,Nat.reduceAdd,Nat.reduceSub,Nat.reduceMul,Nat.reduceEqDiff,Nat.reduceLeDiff,Nat.reduceLT,↓reduceIte,Int.reduceToNat,reduceCtorEq,Int.reduceLT,Int.reduceLE,Int.reduceGT,Int.reduceGE,Int.reduceEq,Int.reduceNe,Int.reduceNeg,Int.reduceAdd,Int.reduceSub,g1,g3,g4,g5,g6,g7,g8,hRl,hR1,e5,Nat.sub_zero]
  refine .le (.ret (.cap ..)) (LeH.refl _) (.done ?_)
  rw [← hpost]
  exact ⟨rfl, rfl⟩
theorem ovl_ok : OvlOk Tryz.prog 124 := by
  refine ⟨Tryz.f124, 26, 4, 92, 3, Tryz.func124, by kernel_rfl, by kernel_rfl, by kernel_rfl, by kernel_rfl, Tryz.underlying26, fun w => ?_⟩
  exact run_size_ti T92 w
theorem insert_c (l : List Pt) (i : Nat) (hi : i ≤ l.length) (hl : l.length ≤ 1000) (x : Pt) : ACalls Tryz.prog 104 [.sl 0 0 l.length none, iv i, .sl 1 0 1 (some 1)] [.rows 3 (l.map rp), .rows 3 [rp x]]
    (fun o H => o = .ret (.sl 2 0 (l.length + 1) none) ∧ H = [.dead, .dead, .rows 3 ((l.take i ++ x :: l.drop i).map rp)]) := by
  refine ACalls.caps fun c h1 h2 => ACalls.up ?_
  refine ACalls.intro (cs := []) (n := 95) Tryz.func104 rfl rfl rfl (by kernel_rfl) rfl ?_
  generalize hpost : (fun (o : Out) (H : Heap) => o = Out.ret (.sl 2 0 (l.length + 1) none) ∧ H = [.dead, .dead, .rows 3 ((l.take i ++ x :: l.drop i).map rp)]) = post
  have g1 : (0 : Int) ≤ i ∧ (i : Int) ≤ (l.length : Int) := ⟨by omega, by omega⟩
  simp only [go_sem,Nat.reduceAdd,Nat.reduceSub,Nat.reduceMul,Nat.reduceEqDiff,Nat.reduceLeDiff,Nat.reduceLT,↓reduceIte,Int.reduceToNat,reduceCtorEq,Int.reduceLT,Int.reduceLE,Int.reduceGT,Int.reduceGE,Int.reduceEq,Int.reduceNe,Int.reduceNeg,Int.reduceAdd,Int.reduceSub,g1,Nat.sub_zero]
  refine condD_dec (fun hc => ?_) (fun hc => ?_)
  · have hil : i = l.length := by omega
    subst hil
    have g2 : l.length ≤ 68719476735 := by omega
    have e1 : (l.map rp).take l.length = l.map rp := List.take_of_length_le (by simp)
    have e2 : (l.map rp).drop (l.length + 1) = [] := List.drop_of_length_le (by simp)
    have e3 : (l.take l.length ++ x :: l.drop l.length).map rp = l.map rp ++ [rp x] := by simp
    rcases Decidable.em (c = 0) with h0 | h0
    · simp only [go_sem,Nat.reduceAdd,Nat.reduceSub,Nat.reduceMul,Nat.reduceEqDiff,Nat.reduceLeDiff,Nat.reduceLT,↓reduceIte,Int.reduceToNat,reduceCtorEq,Int.reduceLT,Int.reduceLE,Int.reduceGT,Int.reduceGE,Int.reduceEq,Int.reduceNe,Int.reduceNeg,Int.reduceAdd,Int.reduceSub,Nat.sub_zero,eq_true h0,g2,e1,List.length_map]
      refine .dead 1 (.done ?_)
      rw [← hpost, e3]
      exact ⟨rfl, rfl⟩
    · rcases Decidable.em (l.length + 1 ≤ c) with h3 | h3
      · simp only [go_sem,Nat.reduceAdd,Nat.reduceSub,Nat.reduceMul,Nat.reduceEqDiff,Nat.reduceLeDiff,Nat.reduceLT,↓reduceIte,Int.reduceToNat,reduceCtorEq,Int.reduceLT,Int.reduceLE,Int.reduceGT,Int.reduceGE,Int.reduceEq,Int.reduceNe,Int.reduceNeg,Int.reduceAdd,Int.reduceSub,Nat.sub_zero,eq_false h0,eq_true h3,g2,e1,e2,List.length_map]
        refine .le (.ret (.cap ..)) (LeH.refl _) (.mv (o' := .ret (.sl 2 0 (l.length + 1) none)) 0 (Nat.le_refl _) rfl rfl (.dead 1 (.done ?_)))
        rw [← hpost, e3]
        exact ⟨rfl, rfl⟩
      · simp only [go_sem,Nat.reduceAdd,Nat.reduceSub,Nat.reduceMul,Nat.reduceEqDiff,Nat.reduceLeDiff,Nat.reduceLT,↓reduceIte,Int.reduceToNat,reduceCtorEq,Int.reduceLT,Int.reduceLE,Int.reduceGT,Int.reduceGE,Int.reduceEq,Int.reduceNe,Int.reduceNeg,Int.reduceAdd,Int.reduceSub,Nat.sub_zero,eq_false h0,eq_false h3,g2,e1,e2,List.length_map]
        refine .dead 0 (.dead 1 (.done ?_))
        rw [← hpost, e3]
        exact ⟨rfl, rfl⟩
  · have e1 : iw .i64 ((l.length : Int) + 1) = ((l.length + 1 : Nat) : Int) := by rw [iw64] <;> omega
    have e2 : iw .i64 ((i : Int) + 1) = ((i + 1 : Nat) : Int) := by rw [iw64] <;> omega
    have e3 : iw .i64 (((l.length + 1 : Nat) : Int) - i) = ((l.length + 1 - i : Nat) : Int) := by rw [iw64] <;> omega
    have h0 : ¬ c = 0 := by omega
    have hil : i < l.length := by omega
    rcases Decidable.em (((c : Nat) : Int) < ((l.length + 1 : Nat) : Int)) with h3 | h3
    · have g3 : (0 : Int) ≤ (i : Int) ∧ (i : Int) ≤ (c : Int) := ⟨by omega, by omega⟩
      have g4 : i ≤ l.length ∧ (0 : Int) ≤ ((l.length + 1 - i : Nat) : Int) ∧ c < i + (l.length + 1 - i) ∧ i + (l.length + 1 - i) ≤ 68719476736 := ⟨by omega, by omega, by omega, by omega⟩
      simp only [go_sem,Nat.reduceAdd,Nat.reduceSub,Nat.reduceMul,Nat.reduceEqDiff,Nat.reduceLeDiff,Nat.reduceLT,↓reduceIte,Int.reduceToNat,reduceCtorEq,Int.reduceLT,Int.reduceLE,Int.reduceGT,Int.reduceGE,Int.reduceEq,Int.reduceNe,Int.reduceNeg,Int.reduceAdd,Int.reduceSub,Nat.sub_zero,e1,e2,e3,eq_true h3,eq_false h0,g3,g4,List.length_map]
      have e4 : i + (l.length + 1 - i) = l.length + 1 := by omega
      rw [e4]
      obtain ⟨A, hA⟩ : ∃ A, A = (l.map rp).take i ++ List.replicate (l.length + 1 - i) rz := ⟨_, rfl⟩
      rw [← hA]
      have hA1 : A.take i = (l.map rp).take i := by rw [hA, List.take_append_of_le_length (by simp; omega), List.take_take, Nat.min_self]
      have hA2 : A.length = l.length + 1 := by rw [hA]; simp; omega
      have g5 : (i : Int) ≤ ((l.length + 1 : Nat) : Int) ∧ 1 ≤ l.length + 1 - i ∧ i ≤ l.length + 1 := ⟨by omega, by omega, by omega⟩
      simp only [go_sem,Nat.reduceAdd,Nat.reduceSub,Nat.reduceMul,Nat.reduceEqDiff,Nat.reduceLeDiff,Nat.reduceLT,↓reduceIte,Int.reduceToNat,reduceCtorEq,Int.reduceLT,Int.reduceLE,Int.reduceGT,Int.reduceGE,Int.reduceEq,Int.reduceNe,Int.reduceNeg,Int.reduceAdd,Int.reduceSub,Nat.sub_zero,g3,g5,hA2,hA1]
      obtain ⟨B, hB⟩ : ∃ B, B = (l.map rp).take i ++ rp x :: A.drop (i + 1) := ⟨_, rfl⟩
      rw [← hB]
      have hB1 : B.take (i + 1) = (l.map rp).take i ++ [rp x] := by
        have hl : ((l.map rp).take i).length = i := by simp; omega
        rw [hB, List.take_append, hl, List.take_of_length_le (by rw [hl]; omega), show i + 1 - i = 1 by omega]
        rfl
      have hB2 : B.length = l.length + 1 := by rw [hB]; simp [hA2]; omega
      refine draw [.qu 0 0, .qu 0 0, .qu 0 0, .qu 0 0, .qu 0 0, .qu 0 0, .qu 0 0, .qu 0 0, .mn 0] (by kernel_rfl) (by kernel_rfl) ?_
      have g6 : (0 : Int) ≤ ((i + 1 : Nat) : Int) ∧ ((i + 1 : Nat) : Int) ≤ ((l.length + 1 : Nat) : Int) ∧ i + 1 ≤ l.length + 1 ∧ l.length - i ≤ l.length + 1 - (i + 1) ∧ (i : Int) ≤ (l.length : Int) := ⟨by omega, by omega, by omega, by omega, by omega⟩
      have e5 : ((l.map rp).drop i).take (l.length - i) = (l.drop i).map rp := by rw [← List.map_drop, List.take_of_length_le (by simp)]
      have e6 : ((l.drop i).map rp).length = l.length - i := by simp
      have e7 : B.drop (i + 1 + (l.length - i)) = [] := List.drop_of_length_le (by omega)
      simp only [go_sem,Nat.reduceAdd,Nat.reduceSub,Nat.reduceMul,Nat.reduceEqDiff,Nat.reduceLeDiff,Nat.reduceLT,↓reduceIte,Int.reduceToNat,reduceCtorEq,Int.reduceLT,Int.reduceLE,Int.reduceGT,Int.reduceGE,Int.reduceEq,Int.reduceNe,Int.reduceNeg,Int.reduceAdd,Int.reduceSub,Nat.sub_zero,e2,g3,g6,hB1,hB2,e5,e6,e7]
      refine .dead 0 (.dead 1 (.done ?_))
      rw [← hpost]
      refine ⟨rfl, ?_⟩
      simp
    · have g3 : (0 : Int) ≤ (i : Int) ∧ (i : Int) ≤ (c : Int) := ⟨by omega, by omega⟩
      have g4 : (0 : Int) ≤ ((l.length + 1 : Nat) : Int) ∧ ((l.length + 1 : Nat) : Int) ≤ (c : Int) ∧ (0 : Int) ≤ ((i + 1 : Nat) : Int) ∧ ((i + 1 : Nat) : Int) ≤ ((l.length + 1 : Nat) : Int) ∧ (i : Int) ≤ ((l.length + 1 : Nat) : Int) := ⟨by omega, by omega, by omega, by omega, by omega⟩
      simp only [go_sem,Nat.reduceAdd,Nat.reduceSub,Nat.reduceMul,Nat.reduceEqDiff,Nat.reduceLeDiff,Nat.reduceLT,↓reduceIte,Int.reduceToNat,reduceCtorEq,Int.reduceLT,Int.reduceLE,Int.reduceGT,Int.reduceGE,Int.reduceEq,Int.reduceNe,Int.reduceNeg,Int.reduceAdd,Int.reduceSub,Nat.sub_zero,e1,e2,e3,eq_false h3,eq_false h0,g3,g4,List.length_map,eq_true ovl_ok]
      refine draw [.qu 0 0, .qu 0 0, .qu 0 0, .qu 0 0, .qu 0 0, .qu 0 0, .qu 0 0, .qu 0 0, .mn 0] (by kernel_rfl) (by kernel_rfl) ?_
      have g5 : ¬ (l.length + 1 - i ≤ l.length + 1 - (i + 1)) := by omega
      have g6 : i + 1 ≤ l.length := by omega
      have e5 : ((l.map rp).drop i).take (l.length + 1 - (i + 1)) = (l.drop i).map rp := by rw [← List.map_drop, List.take_of_length_le (by simp)]
      have e6 : ((l.drop i).map rp).length = l.length + 1 - (i + 1) := by simp
      have e7 : (l.map rp).drop (i + 1 + (l.length + 1 - (i + 1))) = [] := List.drop_of_length_le (by simp; omega)
      simp only [go_sem,Nat.reduceAdd,Nat.reduceSub,Nat.reduceMul,Nat.reduceEqDiff,Nat.reduceLeDiff,Nat.reduceLT,↓reduceIte,Int.reduceToNat,reduceCtorEq,Int.reduceLT,Int.reduceLE,Int.reduceGT,Int.reduceGE,Int.reduceEq,Int.reduceNe,Int.reduceNeg,Int.reduceAdd,Int.reduceSub,Nat.sub_zero,e1,e2,g3,g4,g5,g6,e5,e6,e7,List.length_map]
      obtain ⟨R, hR⟩ : ∃ R, R = (l.map rp).take (i + 1) ++ (l.drop i).map rp := ⟨_, rfl⟩
      rw [← hR]
      have hR1 : R.take i = (l.map rp).take i := by rw [hR, List.take_append_of_le_length (by simp; omega), List.take_take, show min i (i + 1) = i by omega]
      have hR2 : R.length = l.length + 1 := by rw [hR]; simp; omega
      have hR3 : R.drop (i + 1) = (l.drop i).map rp := by
        have hl : ((l.map rp).take (i + 1)).length = i + 1 := by simp; omega
        rw [hR, List.drop_append, hl, List.drop_of_length_le (by rw [hl]; omega), Nat.sub_self]
        rfl
      have g7 : 1 ≤ l.length + 1 - i ∧ i ≤ l.length + 1 := ⟨by omega, by omega⟩
      simp only [go_sem,Nat.reduceAdd,Nat.reduceSub,Nat.reduceMul,Nat.reduceEqDiff,Nat.reduceLeDiff,Nat.reduceLT,↓reduceIte,Int.reduceToNat,reduceCtorEq,Int.reduceLT,Int.reduceLE,Int.reduceGT,Int.reduceGE,Int.reduceEq,Int.reduceNe,Int.reduceNeg,Int.reduceAdd,Int.reduceSub,Nat.sub_zero,e1,e2,g3,g4,g7,hR1,hR2,hR3]
      refine .le (.ret (.cap ..)) (LeH.refl _) (.mv (o' := .ret (.sl 2 0 (l.length + 1) none)) 0 (Nat.le_refl _) rfl rfl (.dead 1 (.done ?_)))
      rw [← hpost]
      refine ⟨rfl, ?_⟩
      simp
end Go.Proofs.YtfiflailjbmlpaaGreatDoor
set_option maxRecDepth 100000
set_option linter.unusedVariables false
set_option linter.unusedSimpArgs false
namespace Go.Proofs.YtfiflailjbmlpaaGreatDoor
open Go.AM
abbrev rfd (e : Int) : AV := .iface 132 (.agg [iv e])
theorem pmust_ok : ACalls Tryz.prog 57 [iv 0] [] (fun o H => o = .ret (.tuple []) ∧ H = []) := by
  refine ACalls.up ?_
  refine ACalls.intro (cs := []) (n := 7) Tryz.func57 rfl rfl rfl (by kernel_rfl) rfl ?_
  simp only [go_sem,Nat.reduceAdd,Nat.reduceSub,Nat.reduceMul,Nat.reduceEqDiff,Nat.reduceLeDiff,Nat.reduceLT,↓reduceIte,Int.reduceToNat,reduceCtorEq,Int.reduceLT,Int.reduceLE,Int.reduceGT,Int.reduceGE,Int.reduceEq,Int.reduceNe,Int.reduceNeg,Int.reduceAdd,Int.reduceSub]
  exact .done ⟨rfl, rfl⟩
theorem pmust_no (e : Int) (h : e ≠ 0) : ACalls Tryz.prog 57 [iv e] [] (fun o H => o = .pan (rfd e) ∧ H = []) := by
  refine ACalls.up ?_
  refine ACalls.intro (cs := []) (n := 7) Tryz.func57 rfl rfl rfl (by kernel_rfl) rfl ?_
  simp only [go_sem,Nat.reduceAdd,Nat.reduceSub,Nat.reduceMul,Nat.reduceEqDiff,Nat.reduceLeDiff,Nat.reduceLT,↓reduceIte,Int.reduceToNat,reduceCtorEq,Int.reduceLT,Int.reduceLE,Int.reduceGT,Int.reduceGE,Int.reduceEq,Int.reduceNe,Int.reduceNeg,Int.reduceAdd,Int.reduceSub,eq_false h]
  exact .done ⟨rfl, rfl⟩
theorem hK_app {P : Program} {ops : Array Oper} {rest : List Oper} {Q : XQ} {s : Ch} {H : Heap} : hK P ops rest Q s H = cops P ops rest Q s H := id rfl
theorem caught_res : Tryz.f40.results.toList = [ResultVar.cell 2 41] := rfl
theorem app_at {H : Heap} {n : Nat} (h : H.length = n) (x : Blk) : (H ++ [x])[n]? = some x := by subst h; simp
theorem app_set {H : Heap} {n : Nat} (h : H.length = n) (x y : Blk) : (H ++ [x]).set n y = H ++ [y] := by subst h; simp
theorem app2_a {H : Heap} {n : Nat} (h : H.length = n) (x y : Blk) : (H ++ [x, y])[n]? = some x := by subst h; simp
theorem app2_b {H : Heap} {n : Nat} (h : H.length = n) (x y : Blk) : (H ++ [x, y])[n + 1]? = some y := by subst h; simp
theorem app2_sa {H : Heap} {n : Nat} (h : H.length = n) (x y z : Blk) : (H ++ [x, y]).set n z = H ++ [z, y] := by subst h; simp
theorem app2_sb {H : Heap} {n : Nat} (h : H.length = n) (x y z : Blk) : (H ++ [x, y]).set (n + 1) z = H ++ [x, z] := by subst h; simp
section
variable {g : FuncId} {cap : List AV} {H H' : Heap}
theorem caught_ret (hE : Enters Tryz.prog g) (hc : ACalls Tryz.prog g cap H (fun o H2 => o = .ret (.tuple []) ∧ H2 = H')) (ha : ltL H.length cap = true) (h1 : ∀ b ∈ H, b.lt H.length) (h2 : ∀ b ∈ H', b.lt H.length) (hl : H'.length = H.length) :
    ACalls Tryz.prog 40 [.func (.func g) [] cap] H (fun o H2 => o = .ret (iv 0) ∧ H2 = H') := by
  refine ACalls.up ?_
  refine ACalls.introD (n := 6) Tryz.func40 rfl (by kernel_rfl) rfl ?_
  refine DWp.seq (by kernel_rfl) ?_
  generalize hpost : (fun (o : Out) (H2 : Heap) => o = Out.ret (iv 0) ∧ H2 = H') = post
  simp only [go_sem,Nat.reduceAdd,Nat.reduceSub,Nat.reduceMul,Nat.reduceEqDiff,Nat.reduceLeDiff,Nat.reduceLT,↓reduceIte,Int.reduceToNat,reduceCtorEq,Int.reduceLT,Int.reduceLE,Int.reduceGT,Int.reduceGE,Int.reduceEq,Int.reduceNe,Int.reduceNeg,Int.reduceAdd,Int.reduceSub,hK_app]
  refine DWp.defer (by kernel_rfl) rfl (by kernel_rfl) (by kernel_rfl) ?_
  simp only [go_sem,Nat.reduceAdd,Nat.reduceSub,Nat.reduceMul,Nat.reduceEqDiff,Nat.reduceLeDiff,Nat.reduceLT,↓reduceIte,Int.reduceToNat,reduceCtorEq,Int.reduceLT,Int.reduceLE,Int.reduceGT,Int.reduceGE,Int.reduceEq,Int.reduceNe,Int.reduceNeg,Int.reduceAdd,Int.reduceSub,hK_app,List.length_append]
  refine ⟨(enters_of Tryz.func79 rfl (by decide)), fun d => ?_⟩
  refine rK_use hE (hc.frame (R := [.rows 1 [[iv 0]]]) ha rfl h1 h2 hl) ?_
  simp only [go_sem,Nat.reduceAdd,Nat.reduceSub,Nat.reduceMul,Nat.reduceEqDiff,Nat.reduceLeDiff,Nat.reduceLT,↓reduceIte,Int.reduceToNat,reduceCtorEq,Int.reduceLT,Int.reduceLE,Int.reduceGT,Int.reduceGE,Int.reduceEq,Int.reduceNe,Int.reduceNeg,Int.reduceAdd,Int.reduceSub,hK_app,app_at hl,app_set hl]
  refine ADef.intro (n := 12) Tryz.func79 rfl rfl (by kernel_rfl) rfl (by kernel_rfl) ?_
  simp only [go_sem,Nat.reduceAdd,Nat.reduceSub,Nat.reduceMul,Nat.reduceEqDiff,Nat.reduceLeDiff,Nat.reduceLT,↓reduceIte,Int.reduceToNat,reduceCtorEq,Int.reduceLT,Int.reduceLE,Int.reduceGT,Int.reduceGE,Int.reduceEq,Int.reduceNe,Int.reduceNeg,Int.reduceAdd,Int.reduceSub,hK_app,app_at hl,app_set hl,caught_res]
  refine .gc H.length (Nat.le_refl _) (by simp; omega) rfl ?_ (.done ?_)
  · rw [← hl, List.take_left]
    rw [hl]; exact h2
  · rw [← hpost, ← hl, List.take_left]
    exact ⟨rfl, rfl⟩
theorem caught_pan (e : Int) (hE : Enters Tryz.prog g) (hc : ACalls Tryz.prog g cap H (fun o H2 => o = .pan (rfd e) ∧ H2 = H')) (ha : ltL H.length cap = true) (h1 : ∀ b ∈ H, b.lt H.length) (h2 : ∀ b ∈ H', b.lt H.length) (hl : H'.length = H.length) :
    ACalls Tryz.prog 40 [.func (.func g) [] cap] H (fun o H2 => o = .ret (iv e) ∧ H2 = H') := by
  refine ACalls.up ?_
  refine ACalls.introD (n := 6) Tryz.func40 rfl (by kernel_rfl) rfl ?_
  refine DWp.seq (by kernel_rfl) ?_
  generalize hpost : (fun (o : Out) (H2 : Heap) => o = Out.ret (iv e) ∧ H2 = H') = post
  simp only [go_sem,Nat.reduceAdd,Nat.reduceSub,Nat.reduceMul,Nat.reduceEqDiff,Nat.reduceLeDiff,Nat.reduceLT,↓reduceIte,Int.reduceToNat,reduceCtorEq,Int.reduceLT,Int.reduceLE,Int.reduceGT,Int.reduceGE,Int.reduceEq,Int.reduceNe,Int.reduceNeg,Int.reduceAdd,Int.reduceSub,hK_app]
  refine DWp.defer (by kernel_rfl) rfl (by kernel_rfl) (by kernel_rfl) ?_
  simp only [go_sem,Nat.reduceAdd,Nat.reduceSub,Nat.reduceMul,Nat.reduceEqDiff,Nat.reduceLeDiff,Nat.reduceLT,↓reduceIte,Int.reduceToNat,reduceCtorEq,Int.reduceLT,Int.reduceLE,Int.reduceGT,Int.reduceGE,Int.reduceEq,Int.reduceNe,Int.reduceNeg,Int.reduceAdd,Int.reduceSub,hK_app,List.length_append]
  refine ⟨(enters_of Tryz.func79 rfl (by decide)), fun d => ?_⟩
  refine rK_pans hE (hc.framep (R := [.rows 1 [[iv 0]]]) ha rfl h1 h2 hl) ?_
  simp only [go_sem,Nat.reduceAdd,Nat.reduceSub,Nat.reduceMul,Nat.reduceEqDiff,Nat.reduceLeDiff,Nat.reduceLT,↓reduceIte,Int.reduceToNat,reduceCtorEq,Int.reduceLT,Int.reduceLE,Int.reduceGT,Int.reduceGE,Int.reduceEq,Int.reduceNe,Int.reduceNeg,Int.reduceAdd,Int.reduceSub,hK_app,app_at hl,app_set hl]
  refine ADef.intro (n := 12) Tryz.func79 rfl rfl (by kernel_rfl) rfl (by kernel_rfl) ?_
  simp only [go_sem,Nat.reduceAdd,Nat.reduceSub,Nat.reduceMul,Nat.reduceEqDiff,Nat.reduceLeDiff,Nat.reduceLT,↓reduceIte,Int.reduceToNat,reduceCtorEq,Int.reduceLT,Int.reduceLE,Int.reduceGT,Int.reduceGE,Int.reduceEq,Int.reduceNe,Int.reduceNeg,Int.reduceAdd,Int.reduceSub,hK_app,app_at hl,app_set hl,app2_a hl,app2_b hl,app2_sa hl,app2_sb hl,List.length_append,hl,caught_res]
  refine .gc H.length (Nat.le_refl _) (by simp; omega) rfl ?_ (.done ?_)
  · rw [← hl, List.take_left]
    rw [hl]; exact h2
  · rw [← hpost, ← hl, List.take_left]
    exact ⟨rfl, rfl⟩
end
end Go.Proofs.YtfiflailjbmlpaaGreatDoor
set_option maxRecDepth 100000
set_option linter.unusedVariables false
set_option linter.unusedSimpArgs false
namespace Go.Proofs.YtfiflailjbmlpaaGreatDoor
open Go.AM
theorem find_l {l : List Pt} (hs : Srt l) (hl : l.length ≤ 1000000) (a : Int) (r : Nat) {H : Heap} (hH : H[r]? = some (.rows 3 (l.map rp))) :
    ACalls Tryz.prog 48 [.sl r 0 l.length none, iv a] H (fun o H2 => o = .ret (.tuple [iv (lb a l), .bool (fnd a l)]) ∧ H2 = H) := by
  have e : fzL r 3 (l.map rp) [.sl r 0 l.length none, iv a] = [.view false 3 (l.map rp), iv a] := by
    simp only [fzL, AV.fz, List.drop_zero, if_true]
    rw [List.take_of_length_le (by simp)]
  refine ACalls.lend r rfl hH (rp_pure l) (by simp [fzOkL, AV.fzOk]) (by rw [e]; rfl) ?_
  rw [e]
  exact find_c l hs hl a
theorem bren_rp (π : Nat → Nat) (l : List Pt) : Blk.ren π (.rows 3 (l.map rp)) = .rows 3 (l.map rp) := by
  rw [Blk.ren]
  congr 1
  rw [List.map_map]
  exact List.map_congr_left fun x _ => rfl
theorem cur_lt {p : Pd} {a : Int} {y : Pt} (h : p.cur a = some y) : lb a p.l < p.l.length := (List.getElem?_eq_some_iff.1 (Pd.cur_at h).1).1
theorem set_rp (l : List Pt) (i : Nat) (x : Pt) : (l.map rp).set i (rp x) = (l.set i x).map rp := by rw [List.map_set]
theorem up_pd {post : CQ} {H : Heap} {q : Pd} (r k : Nat) (nb nl : Nat) (xs ys : List (List AV)) (hrk : r ≠ k) (hr : H[r]? = some (.rows 1 xs)) (hk : H[k]? = some (.rows 3 ys)) (hx : xs.take nb = q.s.byt.map rb) (hy : ys.take nl = q.l.map rp) (hxl : nb ≤ xs.length) (hyl : nl ≤ ys.length)
    (hp : ∀ row ∈ xs, ltL 0 row = true) (hp2 : ∀ row ∈ ys, ltL 0 row = true) (h : post (.ret q.av) []) : Up 0 post (.ret (.agg [.view false 1 (q.s.perm.map r1), .sl r 0 nb none, .sl k 0 nl none])) H := by
  have hkr : ¬ k = r := fun h => hrk h.symm
  refine up_two r 1 xs k 3 ys hrk hr hk hp hp2 ?_ ?_ ?_ ?_
  · simp [Out.fzOk, AV.fzOk, fzOkL, hxl, hkr]
  · simp [Out.fzOk, Out.fz, AV.fz, fzL, AV.fzOk, fzOkL, hkr, hyl]
  · simp [Out.fz, AV.fz, fzL, Out.lt, AV.lt, ltL, hkr]
  · simp only [Out.fz, AV.fz, fzL, if_true, if_neg hkr, List.drop_zero, hx, hy]
    exact h
theorem install_ok (p : Pd) (h : p.ok) (a : Int) (ha : I64 a) (h0 : (p.inst a).2 = 0) : ACalls Tryz.prog 55 [p.av, iv a] [] (fun o H => o = .ret (p.inst a).1.av ∧ H = []) := by
  refine ACalls.up ?_
  refine ACalls.intro (cs := []) (n := 76) Tryz.func55 rfl rfl rfl (by kernel_rfl) rfl ?_
  generalize hpost : (fun (o : Out) (H : Heap) => o = Out.ret (p.inst a).1.av ∧ H = []) = post
  have hl := h.len
  have hbl := byt_len h.sok
  simp only [go_sem,Nat.reduceAdd,Nat.reduceSub,Nat.reduceMul,Nat.reduceEqDiff,Nat.reduceLeDiff,Nat.reduceLT,↓reduceIte,Int.reduceToNat,reduceCtorEq,Int.reduceLT,Int.reduceLE,Int.reduceGT,Int.reduceGE,Int.reduceEq,Int.reduceNe,Int.reduceNeg,Int.reduceAdd,Int.reduceSub,Pd.av]
  refine rK_use (enters_of Tryz.func25 rfl (by decide)) (ACalls.pure_use (pcheck_c p) rfl rfl) ?_
  rw [Pd.chk_ok h]
  simp only [go_sem,Nat.reduceAdd,Nat.reduceSub,Nat.reduceMul,Nat.reduceEqDiff,Nat.reduceLeDiff,Nat.reduceLT,↓reduceIte,Int.reduceToNat,reduceCtorEq,Int.reduceLT,Int.reduceLE,Int.reduceGT,Int.reduceGE,Int.reduceEq,Int.reduceNe,Int.reduceNeg,Int.reduceAdd,Int.reduceSub]
  refine rK_use (enters_of Tryz.func57 rfl (by decide)) (ACalls.pure_use (pmust_ok) rfl rfl) ?_
  simp only [go_sem,Nat.reduceAdd,Nat.reduceSub,Nat.reduceMul,Nat.reduceEqDiff,Nat.reduceLeDiff,Nat.reduceLT,↓reduceIte,Int.reduceToNat,reduceCtorEq,Int.reduceLT,Int.reduceLE,Int.reduceGT,Int.reduceGE,Int.reduceEq,Int.reduceNe,Int.reduceNeg,Int.reduceAdd,Int.reduceSub]
  refine rK_use (enters_of Tryz.func58 rfl (by decide)) (pcopied_u p h.fit _) ?_
  simp only [go_sem,Nat.reduceAdd,Nat.reduceSub,Nat.reduceMul,Nat.reduceEqDiff,Nat.reduceLeDiff,Nat.reduceLT,↓reduceIte,Int.reduceToNat,reduceCtorEq,Int.reduceLT,Int.reduceLE,Int.reduceGT,Int.reduceGE,Int.reduceEq,Int.reduceNe,Int.reduceNeg,Int.reduceAdd,Int.reduceSub]
  refine rK_use (enters_of Tryz.func48 rfl (by decide)) (find_l h.sor (by omega) a 3 rfl) ?_
  rw [fnd_cur]
  unfold Pd.inst at h0 hpost
  cases hc : p.cur a with
  | some y =>
    rw [hc] at h0 hpost
    simp only at h0 hpost
    have hlb := cur_lt hc
    obtain ⟨hy, hya⟩ := Pd.cur_at hc
    have hf := h.fits y (List.mem_of_getElem? hy)
    have hn1 := hf.n1
    have hn2 := hf.n2
    by_cases hn : y.n = 1000
    · rw [if_pos hn] at h0; cases h0
    rw [if_neg hn] at hpost
    have g1 : (0 : Int) ≤ (lb a p.l : Int) ∧ (lb a p.l : Int) < (p.l.length : Int) := ⟨by omega, by omega⟩
    have e1 : iw .i64 (y.n + 1) = y.n + 1 := by rw [iw64] <;> omega
    simp only [go_sem,Nat.reduceAdd,Nat.reduceSub,Nat.reduceMul,Nat.reduceEqDiff,Nat.reduceLeDiff,Nat.reduceLT,↓reduceIte,Int.reduceToNat,reduceCtorEq,Int.reduceLT,Int.reduceLE,Int.reduceGT,Int.reduceGE,Int.reduceEq,Int.reduceNe,Int.reduceNeg,Int.reduceAdd,Int.reduceSub,Option.isSome_some,g1,hy,List.length_map,List.getElem?_map,eq_false hn,e1,hlb]
    refine up_pd (q := ⟨p.s, p.l.set (lb a p.l) ⟨y.at_, y.old, y.n + 1⟩⟩) 2 3 p.s.byt.length p.l.length _ _ (by decide) rfl rfl (List.take_of_length_le (by simp)) ?_ (by simp) (by simp) (rb_lt0 _) ?_ ?_
    · rw [set_rp _ _ ⟨y.at_, y.old, y.n + 1⟩, List.take_of_length_le (by simp)]
    · rw [set_rp _ _ ⟨y.at_, y.old, y.n + 1⟩]
      exact rp_lt0 _
    · rw [← hpost]
      exact ⟨rfl, rfl⟩
  | none =>
    rw [hc] at h0 hpost
    simp only at h0 hpost
    simp only [go_sem,Nat.reduceAdd,Nat.reduceSub,Nat.reduceMul,Nat.reduceEqDiff,Nat.reduceLeDiff,Nat.reduceLT,↓reduceIte,Int.reduceToNat,reduceCtorEq,Int.reduceLT,Int.reduceLE,Int.reduceGT,Int.reduceGE,Int.reduceEq,Int.reduceNe,Int.reduceNeg,Int.reduceAdd,Int.reduceSub,Option.isSome_none]
    refine rK_use (enters_of Tryz.func49 rfl (by decide)) (ACalls.pure_use (standing_c p.s h.sok a) rfl (by simp [sitC, Ins.cells, AV.lt, ltL])) ?_
    by_cases hst : (stand p.s a).e = 0
    rotate_left
    · rw [if_neg hst] at h0; cases h0
    rw [if_pos hst] at h0 hpost
    by_cases hn : p.l.length = 64
    · rw [if_pos hn] at h0; cases h0
    rw [if_neg hn] at hpost
    have hn' : ¬ (p.l.length : Int) = 64 := by omega
    obtain ⟨b0, b1, _, d, _, _, hd⟩ := stand_at ha (by rw [hst]; decide)
    rw [hd, Option.getD_some] at hpost
    have g2 : (0 : Int) ≤ a ∧ a < (p.s.byt.length : Int) := ⟨b0, b1⟩
    have g3 : a.toNat < p.s.byt.length := by omega
    simp only [go_sem,Nat.reduceAdd,Nat.reduceSub,Nat.reduceMul,Nat.reduceEqDiff,Nat.reduceLeDiff,Nat.reduceLT,↓reduceIte,Int.reduceToNat,reduceCtorEq,Int.reduceLT,Int.reduceLE,Int.reduceGT,Int.reduceGE,Int.reduceEq,Int.reduceNe,Int.reduceNeg,Int.reduceAdd,Int.reduceSub,decide_eq_true hst,sitC,Ins.cells,eq_false hn']
    refine draw [.qu 0 1, .rd 0 1, .qu 0 1, .qu 0 0, .qu 0 0, .qu 0 0, .qu 0 0, .qu 0 0, .qu 0 0, .qu 0 0, .qu 0 0, .mn 0, .mn 1, .qu 2 2, .mn 2] (by kernel_rfl) (by kernel_rfl) ?_
    simp only [go_sem,Nat.reduceAdd,Nat.reduceSub,Nat.reduceMul,Nat.reduceEqDiff,Nat.reduceLeDiff,Nat.reduceLT,↓reduceIte,Int.reduceToNat,reduceCtorEq,Int.reduceLT,Int.reduceLE,Int.reduceGT,Int.reduceGE,Int.reduceEq,Int.reduceNe,Int.reduceNeg,Int.reduceAdd,Int.reduceSub,g2,hd,List.length_map,List.getElem?_map]
    have hins : insL a ⟨a, d, 1⟩ p.l = p.l.take (lb a p.l) ++ ⟨a, d, 1⟩ :: p.l.drop (lb a p.l) := rfl
    refine dM_call (enters_of Tryz.func104 rfl (by decide)) ((insert_c p.l (lb a p.l) (lb_le a p.l) (by omega) ⟨a, d, 1⟩).useE [3, 6] (.sl 7 0 (p.l.length + 1) none) [.rows 3 [[.view false 1 (p.s.perm.map r1), .view false 1 (p.s.byt.map rb), .view false 3 (p.l.map rp)]], .rows 3 [[.view true 0 [], .view true 0 [], .view true 0 []]], .rows 1 (p.s.byt.map rb), .dead, .rows 3 [[.view false 1 (p.s.perm.map r1), .sl 2 0 p.s.byt.length none, .sl 3 0 p.l.length none]],
      .rows 5 [[iv (stand p.s a).x.op, iv (stand p.s a).x.a, iv (stand p.s a).x.b, iv (stand p.s a).x.imm, iv (stand p.s a).n]], .dead, .rows 3 ((insL a ⟨a, d, 1⟩ p.l).map rp)] (by simp) rfl (by simp) ?_ rfl rfl ?_) ?_
    · simp only [List.map_cons, List.map_nil, bren_rp, List.getElem?_cons_succ, List.getElem?_cons_zero]
      rfl
    · simp only [patch, setMany, List.length_cons, List.length_nil, List.drop_succ_cons, List.drop_zero, List.map_cons, List.map_nil, bren_rp, hins]
      rfl
    obtain ⟨z, hz⟩ := at_lt (l := p.s.byt.map rb) (i := a.toNat) (by simpa using g3)
    have eset : (p.s.byt.map rb).set a.toNat [.int .u8 204] = (p.s.put a.toNat 204).byt.map rb := by rw [Sp.put, List.map_set]; rfl
    simp only [go_sem,Nat.reduceAdd,Nat.reduceSub,Nat.reduceMul,Nat.reduceEqDiff,Nat.reduceLeDiff,Nat.reduceLT,↓reduceIte,Int.reduceToNat,reduceCtorEq,Int.reduceLT,Int.reduceLE,Int.reduceGT,Int.reduceGE,Int.reduceEq,Int.reduceNe,Int.reduceNeg,Int.reduceAdd,Int.reduceSub,g2,g3,hd,List.length_map,List.getElem?_map,eset]
    refine up_pd (q := ⟨p.s.put a.toNat 204, insL a ⟨a, d, 1⟩ p.l⟩) 2 7 p.s.byt.length (p.l.length + 1) _ _ (by decide) rfl rfl (List.take_of_length_le (by simp [Sp.put])) (List.take_of_length_le (by simp [ins_len])) (by simp [Sp.put]) (by simp [ins_len]) (rb_lt0 _) (rp_lt0 _) ?_
    rw [← hpost]
    exact ⟨rfl, rfl⟩
theorem install_no (p : Pd) (h : p.ok) (a : Int) (h0 : (p.inst a).2 ≠ 0) : ACalls Tryz.prog 55 [p.av, iv a] [] (fun o H => o = .pan (rfd (p.inst a).2) ∧ H = []) := by
  refine ACalls.up ?_
  refine ACalls.intro (cs := []) (n := 76) Tryz.func55 rfl rfl rfl (by kernel_rfl) rfl ?_
  generalize hpost : (fun (o : Out) (H : Heap) => o = Out.pan (rfd (p.inst a).2) ∧ H = []) = post
  have fin : ∀ n H, n = (p.inst a).2 → Up 0 post (.pan (rfd n)) H := fun n H h => finp rfl (by rw [← hpost, ← h]; exact ⟨rfl, rfl⟩) H
  have hl := h.len
  simp only [go_sem,Nat.reduceAdd,Nat.reduceSub,Nat.reduceMul,Nat.reduceEqDiff,Nat.reduceLeDiff,Nat.reduceLT,↓reduceIte,Int.reduceToNat,reduceCtorEq,Int.reduceLT,Int.reduceLE,Int.reduceGT,Int.reduceGE,Int.reduceEq,Int.reduceNe,Int.reduceNeg,Int.reduceAdd,Int.reduceSub,Pd.av]
  refine rK_use (enters_of Tryz.func25 rfl (by decide)) (ACalls.pure_use (pcheck_c p) rfl rfl) ?_
  rw [Pd.chk_ok h]
  simp only [go_sem,Nat.reduceAdd,Nat.reduceSub,Nat.reduceMul,Nat.reduceEqDiff,Nat.reduceLeDiff,Nat.reduceLT,↓reduceIte,Int.reduceToNat,reduceCtorEq,Int.reduceLT,Int.reduceLE,Int.reduceGT,Int.reduceGE,Int.reduceEq,Int.reduceNe,Int.reduceNeg,Int.reduceAdd,Int.reduceSub]
  refine rK_use (enters_of Tryz.func57 rfl (by decide)) (ACalls.pure_use (pmust_ok) rfl rfl) ?_
  simp only [go_sem,Nat.reduceAdd,Nat.reduceSub,Nat.reduceMul,Nat.reduceEqDiff,Nat.reduceLeDiff,Nat.reduceLT,↓reduceIte,Int.reduceToNat,reduceCtorEq,Int.reduceLT,Int.reduceLE,Int.reduceGT,Int.reduceGE,Int.reduceEq,Int.reduceNe,Int.reduceNeg,Int.reduceAdd,Int.reduceSub]
  refine rK_use (enters_of Tryz.func58 rfl (by decide)) (pcopied_u p h.fit _) ?_
  simp only [go_sem,Nat.reduceAdd,Nat.reduceSub,Nat.reduceMul,Nat.reduceEqDiff,Nat.reduceLeDiff,Nat.reduceLT,↓reduceIte,Int.reduceToNat,reduceCtorEq,Int.reduceLT,Int.reduceLE,Int.reduceGT,Int.reduceGE,Int.reduceEq,Int.reduceNe,Int.reduceNeg,Int.reduceAdd,Int.reduceSub]
  refine rK_use (enters_of Tryz.func48 rfl (by decide)) (find_l h.sor (by omega) a 3 rfl) ?_
  rw [fnd_cur]
  unfold Pd.inst at h0 fin
  cases hc : p.cur a with
  | some y =>
    rw [hc] at h0 fin
    simp only at h0 fin
    have hlb := cur_lt hc
    obtain ⟨hy, hya⟩ := Pd.cur_at hc
    have g1 : (0 : Int) ≤ (lb a p.l : Int) ∧ (lb a p.l : Int) < (p.l.length : Int) := ⟨by omega, by omega⟩
    by_cases hn : y.n = 1000
    rotate_left
    · rw [if_neg hn] at h0; exact absurd rfl h0
    rw [if_pos hn] at fin
    simp only [go_sem,Nat.reduceAdd,Nat.reduceSub,Nat.reduceMul,Nat.reduceEqDiff,Nat.reduceLeDiff,Nat.reduceLT,↓reduceIte,Int.reduceToNat,reduceCtorEq,Int.reduceLT,Int.reduceLE,Int.reduceGT,Int.reduceGE,Int.reduceEq,Int.reduceNe,Int.reduceNeg,Int.reduceAdd,Int.reduceSub,Option.isSome_some,g1,hy,List.length_map,List.getElem?_map,eq_true hn,hlb]
    refine rK_pans (enters_of Tryz.func57 rfl (by decide)) (ACalls.pure_pan (pmust_no 2 (by decide)) rfl rfl) ?_
    simp only [go_sem,Nat.reduceAdd,Nat.reduceSub,Nat.reduceMul,Nat.reduceEqDiff,Nat.reduceLeDiff,Nat.reduceLT,↓reduceIte,Int.reduceToNat,reduceCtorEq,Int.reduceLT,Int.reduceLE,Int.reduceGT,Int.reduceGE,Int.reduceEq,Int.reduceNe,Int.reduceNeg,Int.reduceAdd,Int.reduceSub]
    exact fin 2 _ rfl
  | none =>
    rw [hc] at h0 fin
    simp only at h0 fin
    simp only [go_sem,Nat.reduceAdd,Nat.reduceSub,Nat.reduceMul,Nat.reduceEqDiff,Nat.reduceLeDiff,Nat.reduceLT,↓reduceIte,Int.reduceToNat,reduceCtorEq,Int.reduceLT,Int.reduceLE,Int.reduceGT,Int.reduceGE,Int.reduceEq,Int.reduceNe,Int.reduceNeg,Int.reduceAdd,Int.reduceSub,Option.isSome_none]
    refine rK_use (enters_of Tryz.func49 rfl (by decide)) (ACalls.pure_use (standing_c p.s h.sok a) rfl (by simp [sitC, Ins.cells, AV.lt, ltL])) ?_
    by_cases hst : (stand p.s a).e = 0
    · rw [if_pos hst] at h0 fin
      by_cases hn : p.l.length = 64
      rotate_left
      · rw [if_neg hn] at h0; exact absurd rfl h0
      rw [if_pos hn] at fin
      have hn' : (p.l.length : Int) = 64 := by omega
      simp only [go_sem,Nat.reduceAdd,Nat.reduceSub,Nat.reduceMul,Nat.reduceEqDiff,Nat.reduceLeDiff,Nat.reduceLT,↓reduceIte,Int.reduceToNat,reduceCtorEq,Int.reduceLT,Int.reduceLE,Int.reduceGT,Int.reduceGE,Int.reduceEq,Int.reduceNe,Int.reduceNeg,Int.reduceAdd,Int.reduceSub,decide_eq_true hst,sitC,Ins.cells,eq_true hn']
      refine rK_pans (enters_of Tryz.func57 rfl (by decide)) (ACalls.pure_pan (pmust_no 2 (by decide)) rfl rfl) ?_
      simp only [go_sem,Nat.reduceAdd,Nat.reduceSub,Nat.reduceMul,Nat.reduceEqDiff,Nat.reduceLeDiff,Nat.reduceLT,↓reduceIte,Int.reduceToNat,reduceCtorEq,Int.reduceLT,Int.reduceLE,Int.reduceGT,Int.reduceGE,Int.reduceEq,Int.reduceNe,Int.reduceNeg,Int.reduceAdd,Int.reduceSub]
      exact fin 2 _ rfl
    · rw [if_neg hst] at fin
      simp only [go_sem,Nat.reduceAdd,Nat.reduceSub,Nat.reduceMul,Nat.reduceEqDiff,Nat.reduceLeDiff,Nat.reduceLT,↓reduceIte,Int.reduceToNat,reduceCtorEq,Int.reduceLT,Int.reduceLE,Int.reduceGT,Int.reduceGE,Int.reduceEq,Int.reduceNe,Int.reduceNeg,Int.reduceAdd,Int.reduceSub,decide_eq_false hst,sitC,Ins.cells]
      refine rK_pans (enters_of Tryz.func57 rfl (by decide)) (ACalls.pure_pan (pmust_no 71 (by decide)) rfl rfl) ?_
      simp only [go_sem,Nat.reduceAdd,Nat.reduceSub,Nat.reduceMul,Nat.reduceEqDiff,Nat.reduceLeDiff,Nat.reduceLT,↓reduceIte,Int.reduceToNat,reduceCtorEq,Int.reduceLT,Int.reduceLE,Int.reduceGT,Int.reduceGE,Int.reduceEq,Int.reduceNe,Int.reduceNeg,Int.reduceAdd,Int.reduceSub]
      exact fin 71 _ rfl
theorem install_n (p : Pd) (h : ¬ p.ok) (a : Int) : ACalls Tryz.prog 55 [p.av, iv a] [] (fun o H => o = .pan (rfd 70) ∧ H = []) := by
  refine ACalls.up ?_
  refine ACalls.intro (cs := []) (n := 76) Tryz.func55 rfl rfl rfl (by kernel_rfl) rfl ?_
  simp only [go_sem,Nat.reduceAdd,Nat.reduceSub,Nat.reduceMul,Nat.reduceEqDiff,Nat.reduceLeDiff,Nat.reduceLT,↓reduceIte,Int.reduceToNat,reduceCtorEq,Int.reduceLT,Int.reduceLE,Int.reduceGT,Int.reduceGE,Int.reduceEq,Int.reduceNe,Int.reduceNeg,Int.reduceAdd,Int.reduceSub,Pd.av]
  refine rK_use (enters_of Tryz.func25 rfl (by decide)) (ACalls.pure_use (pcheck_c p) rfl rfl) ?_
  rw [Pd.chk_no h]
  simp only [go_sem,Nat.reduceAdd,Nat.reduceSub,Nat.reduceMul,Nat.reduceEqDiff,Nat.reduceLeDiff,Nat.reduceLT,↓reduceIte,Int.reduceToNat,reduceCtorEq,Int.reduceLT,Int.reduceLE,Int.reduceGT,Int.reduceGE,Int.reduceEq,Int.reduceNe,Int.reduceNeg,Int.reduceAdd,Int.reduceSub]
  refine rK_pans (enters_of Tryz.func57 rfl (by decide)) (ACalls.pure_pan (pmust_no 70 (by decide)) rfl rfl) ?_
  simp only [go_sem,Nat.reduceAdd,Nat.reduceSub,Nat.reduceMul,Nat.reduceEqDiff,Nat.reduceLeDiff,Nat.reduceLT,↓reduceIte,Int.reduceToNat,reduceCtorEq,Int.reduceLT,Int.reduceLE,Int.reduceGT,Int.reduceGE,Int.reduceEq,Int.reduceNe,Int.reduceNeg,Int.reduceAdd,Int.reduceSub]
  exact finp rfl ⟨rfl, rfl⟩ _
open Classical in
noncomputable def Pd.instA (p : Pd) (a : Int) : Pd × Int := if p.ok then p.inst a else (p0, 70)
theorem install_pan (p : Pd) (a : Int) (h0 : (p.instA a).2 ≠ 0) : ACalls Tryz.prog 55 [p.av, iv a] [] (fun o H => o = .pan (rfd (p.instA a).2) ∧ H = []) := by
  unfold Pd.instA at h0 ⊢
  by_cases h : p.ok
  · rw [if_pos h] at h0 ⊢
    exact install_no p h a h0
  · rw [if_neg h]
    exact install_n p h a
def Pd.cells (p : Pd) : List AV := [.view false 1 (p.s.perm.map r1), .view false 1 (p.s.byt.map rb), .view false 3 (p.l.map rp)]
def pdN : List AV := [.view true 0 [], .view true 0 [], .view true 0 []]
theorem pdN_le : LeV (.agg pdN) p0.av := .agg (.cons (.nil true false 0 1 (by simp)) (.cons (.nil true false 0 1 (by simp)) (.cons (.nil true false 0 3 (by simp)) .nil)))
theorem inst_p0 (p : Pd) (a : Int) (h0 : (p.instA a).2 ≠ 0) : (p.instA a).1 = p0 := by
  unfold Pd.instA Pd.inst at h0 ⊢
  repeat' split
  all_goals first | rfl | skip
  all_goals simp_all
theorem Install_c (p : Pd) (a : Int) (ha : I64 a) : ACalls Tryz.prog 18 [p.av, iv a] [] (fun o H => o = .ret (.tuple [(p.instA a).1.av, iv (p.instA a).2]) ∧ H = []) := by
  refine ACalls.up ?_
  refine ACalls.intro (cs := []) (n := 14) Tryz.func18 rfl rfl rfl (by kernel_rfl) rfl ?_
  generalize hpost : (fun (o : Out) (H : Heap) => o = Out.ret (.tuple [(p.instA a).1.av, iv (p.instA a).2]) ∧ H = []) = post
  simp only [go_sem,Nat.reduceAdd,Nat.reduceSub,Nat.reduceMul,Nat.reduceEqDiff,Nat.reduceLeDiff,Nat.reduceLT,↓reduceIte,Int.reduceToNat,reduceCtorEq,Int.reduceLT,Int.reduceLE,Int.reduceGT,Int.reduceGE,Int.reduceEq,Int.reduceNe,Int.reduceNeg,Int.reduceAdd,Int.reduceSub,Pd.av]
  by_cases h0 : (p.instA a).2 = 0
  · have hp : p.ok := Classical.byContradiction fun h => by rw [Pd.instA, if_neg h] at h0; cases h0
    have hcl : ACalls Tryz.prog 54 [.ptr 0 0 0, .ptr 1 0 0, .ptr 2 0 0] [.rows 3 [p.cells], .rows 1 [[iv a]], .rows 3 [pdN]] (fun o H => o = .ret (.tuple []) ∧ H = [.rows 3 [p.cells], .rows 1 [[iv a]], .rows 3 [(p.instA a).1.cells]]) := by
      refine ACalls.up ?_
      refine ACalls.intro (cs := []) (n := 6) Tryz.func54 rfl rfl rfl (by kernel_rfl) rfl ?_
      simp only [go_sem,Nat.reduceAdd,Nat.reduceSub,Nat.reduceMul,Nat.reduceEqDiff,Nat.reduceLeDiff,Nat.reduceLT,↓reduceIte,Int.reduceToNat,reduceCtorEq,Int.reduceLT,Int.reduceLE,Int.reduceGT,Int.reduceGE,Int.reduceEq,Int.reduceNe,Int.reduceNeg,Int.reduceAdd,Int.reduceSub,Pd.cells,pdN]
      have e : p.instA a = p.inst a := if_pos hp
      rw [e] at h0 ⊢
      refine rK_use (enters_of Tryz.func55 rfl (by decide)) (ACalls.pure_use (install_ok p hp a ha h0) rfl rfl) ?_
      simp only [go_sem,Nat.reduceAdd,Nat.reduceSub,Nat.reduceMul,Nat.reduceEqDiff,Nat.reduceLeDiff,Nat.reduceLT,↓reduceIte,Int.reduceToNat,reduceCtorEq,Int.reduceLT,Int.reduceLE,Int.reduceGT,Int.reduceGE,Int.reduceEq,Int.reduceNe,Int.reduceNeg,Int.reduceAdd,Int.reduceSub,Pd.av]
      exact .done ⟨rfl, rfl⟩
    refine rK_use (enters_of Tryz.func40 rfl (by decide)) (caught_ret (enters_of Tryz.func54 rfl (by decide)) hcl rfl (by simp [Blk.lt, ltL, AV.lt, Pd.cells, pdN]) (by simp [Blk.lt, ltL, AV.lt, Pd.cells]) rfl) ?_
    simp only [go_sem,Nat.reduceAdd,Nat.reduceSub,Nat.reduceMul,Nat.reduceEqDiff,Nat.reduceLeDiff,Nat.reduceLT,↓reduceIte,Int.reduceToNat,reduceCtorEq,Int.reduceLT,Int.reduceLE,Int.reduceGT,Int.reduceGE,Int.reduceEq,Int.reduceNe,Int.reduceNeg,Int.reduceAdd,Int.reduceSub,Pd.cells]
    refine finv rfl ?_ _
    rw [← hpost, h0]
    exact ⟨rfl, rfl⟩
  · have hcl : ACalls Tryz.prog 54 [.ptr 0 0 0, .ptr 1 0 0, .ptr 2 0 0] [.rows 3 [p.cells], .rows 1 [[iv a]], .rows 3 [pdN]] (fun o H => o = .pan (rfd (p.instA a).2) ∧ H = [.rows 3 [p.cells], .rows 1 [[iv a]], .rows 3 [pdN]]) := by
      refine ACalls.up ?_
      refine ACalls.intro (cs := []) (n := 6) Tryz.func54 rfl rfl rfl (by kernel_rfl) rfl ?_
      simp only [go_sem,Nat.reduceAdd,Nat.reduceSub,Nat.reduceMul,Nat.reduceEqDiff,Nat.reduceLeDiff,Nat.reduceLT,↓reduceIte,Int.reduceToNat,reduceCtorEq,Int.reduceLT,Int.reduceLE,Int.reduceGT,Int.reduceGE,Int.reduceEq,Int.reduceNe,Int.reduceNeg,Int.reduceAdd,Int.reduceSub,Pd.cells,pdN]
      refine rK_pans (enters_of Tryz.func55 rfl (by decide)) (ACalls.pure_pan (install_pan p a h0) rfl rfl) ?_
      simp only [go_sem,Nat.reduceAdd,Nat.reduceSub,Nat.reduceMul,Nat.reduceEqDiff,Nat.reduceLeDiff,Nat.reduceLT,↓reduceIte,Int.reduceToNat,reduceCtorEq,Int.reduceLT,Int.reduceLE,Int.reduceGT,Int.reduceGE,Int.reduceEq,Int.reduceNe,Int.reduceNeg,Int.reduceAdd,Int.reduceSub]
      exact .done ⟨rfl, rfl⟩
    refine rK_use (enters_of Tryz.func40 rfl (by decide)) (caught_pan (p.instA a).2 (enters_of Tryz.func54 rfl (by decide)) hcl rfl (by simp [Blk.lt, ltL, AV.lt, Pd.cells, pdN]) (by simp [Blk.lt, ltL, AV.lt, Pd.cells, pdN]) rfl) ?_
    simp only [go_sem,Nat.reduceAdd,Nat.reduceSub,Nat.reduceMul,Nat.reduceEqDiff,Nat.reduceLeDiff,Nat.reduceLT,↓reduceIte,Int.reduceToNat,reduceCtorEq,Int.reduceLT,Int.reduceLE,Int.reduceGT,Int.reduceGE,Int.reduceEq,Int.reduceNe,Int.reduceNeg,Int.reduceAdd,Int.reduceSub,Pd.cells,pdN,eq_false h0]
    refine .le (.ret (.tuple (.cons pdN_le (.cons (.refl _) .nil)))) (LeH.refl _) (finv rfl ?_ _)
    rw [← hpost, inst_p0 p a h0]
    exact ⟨rfl, rfl⟩
end Go.Proofs.YtfiflailjbmlpaaGreatDoor
set_option maxRecDepth 100000
set_option linter.unusedVariables false
set_option linter.unusedSimpArgs false
namespace Go.Proofs.YtfiflailjbmlpaaGreatDoor
open Go.AM
theorem up_cell {post : CQ} {p q : Pd} {a : Int} (nb nl : Nat) (xs ys : List (List AV)) (hx : xs.take nb = q.s.byt.map rb) (hy : ys.take nl = q.l.map rp) (hxl : nb ≤ xs.length) (hyl : nl ≤ ys.length)
    (hp : ∀ row ∈ xs, ltL 0 row = true) (hp2 : ∀ row ∈ ys, ltL 0 row = true) (h : post (.ret (.tuple [])) [.rows 3 [p.cells], .rows 1 [[iv a]], .rows 3 [q.cells]]) :
    Up 3 post (.ret (.tuple [])) [.rows 3 [p.cells], .rows 1 [[iv a]], .rows 3 [[.view false 1 (q.s.perm.map r1), .sl 3 0 nb none, .sl 4 0 nl none]], .rows 1 xs, .rows 3 ys] := by
  refine .fz 3 1 xs rfl (fun row hr x hx => ltL_mem (hp row hr) x hx) trivial ?_ ?_
  · simp only [List.set_cons_zero, List.set_cons_succ, List.forall_mem_cons]
    refine ⟨by simp [Blk.fzOk, fzOkL, AV.fzOk, Pd.cells], by simp [Blk.fzOk, fzOkL, AV.fzOk], by simp [Blk.fzOk, fzOkL, AV.fzOk, hxl], trivial, bfzOk_pure hp2, by simp⟩
  simp only [List.set_cons_zero, List.set_cons_succ, List.map_cons, List.map_nil, bfz_pure hp2]
  refine .fz 4 3 ys rfl (fun row hr x hx => ltL_mem (hp2 row hr) x hx) trivial ?_ ?_
  · simp only [List.set_cons_zero, List.set_cons_succ, List.forall_mem_cons]
    refine ⟨by simp [Blk.fz, fzL, AV.fz, Blk.fzOk, fzOkL, AV.fzOk, Pd.cells], by simp [Blk.fz, fzL, AV.fz, Blk.fzOk, fzOkL, AV.fzOk], by simp [Blk.fz, fzL, AV.fz, Blk.fzOk, fzOkL, AV.fzOk, hyl], trivial, trivial, by simp⟩
  simp only [Pd.cells, List.set_cons_zero, List.set_cons_succ, List.map_cons, List.map_nil, Blk.fz, fzL, AV.fz, Out.fz, if_true, if_false, Nat.reduceEqDiff, reduceIte, List.drop_zero, hx, hy]
  refine .gc 3 (Nat.le_refl _) (by simp) rfl (by simp [Blk.lt, ltL, AV.lt, Pd.cells]) (.done ?_)
  exact h
theorem remove1_ok (p : Pd) (h : p.ok) (a : Int) (h0 : (p.rem a).2 = 0) : ACalls Tryz.prog 56 [.ptr 0 0 0, .ptr 1 0 0, .ptr 2 0 0] [.rows 3 [p.cells], .rows 1 [[iv a]], .rows 3 [pdN]] (fun o H => o = .ret (.tuple []) ∧ H = [.rows 3 [p.cells], .rows 1 [[iv a]], .rows 3 [(p.rem a).1.cells]]) := by
  refine ACalls.up ?_
  refine ACalls.intro (cs := []) (n := 54) Tryz.func56 rfl rfl rfl (by kernel_rfl) rfl ?_
  generalize hpost : (fun (o : Out) (H : Heap) => o = Out.ret (.tuple []) ∧ H = [.rows 3 [p.cells], .rows 1 [[iv a]], .rows 3 [(p.rem a).1.cells]]) = post
  have hl := h.len
  have hbl := byt_len h.sok
  simp only [go_sem,Nat.reduceAdd,Nat.reduceSub,Nat.reduceMul,Nat.reduceEqDiff,Nat.reduceLeDiff,Nat.reduceLT,↓reduceIte,Int.reduceToNat,reduceCtorEq,Int.reduceLT,Int.reduceLE,Int.reduceGT,Int.reduceGE,Int.reduceEq,Int.reduceNe,Int.reduceNeg,Int.reduceAdd,Int.reduceSub,Pd.cells,pdN]
  refine rK_use (enters_of Tryz.func25 rfl (by decide)) (ACalls.pure_use (pcheck_c p) rfl rfl) ?_
  rw [Pd.chk_ok h]
  simp only [go_sem,Nat.reduceAdd,Nat.reduceSub,Nat.reduceMul,Nat.reduceEqDiff,Nat.reduceLeDiff,Nat.reduceLT,↓reduceIte,Int.reduceToNat,reduceCtorEq,Int.reduceLT,Int.reduceLE,Int.reduceGT,Int.reduceGE,Int.reduceEq,Int.reduceNe,Int.reduceNeg,Int.reduceAdd,Int.reduceSub]
  refine rK_use (enters_of Tryz.func57 rfl (by decide)) (ACalls.pure_use (pmust_ok) rfl rfl) ?_
  simp only [go_sem,Nat.reduceAdd,Nat.reduceSub,Nat.reduceMul,Nat.reduceEqDiff,Nat.reduceLeDiff,Nat.reduceLT,↓reduceIte,Int.reduceToNat,reduceCtorEq,Int.reduceLT,Int.reduceLE,Int.reduceGT,Int.reduceGE,Int.reduceEq,Int.reduceNe,Int.reduceNeg,Int.reduceAdd,Int.reduceSub]
  refine rK_use (enters_of Tryz.func48 rfl (by decide)) (ACalls.pure_use (find_c p.l h.sor (by omega) a) rfl rfl) ?_
  rw [fnd_cur]
  unfold Pd.rem at h0 hpost
  cases hc : p.cur a with
  | none => rw [hc] at h0; cases h0
  | some y =>
    rw [hc] at h0 hpost
    simp only at h0 hpost
    have hlb := cur_lt hc
    obtain ⟨hy, hya⟩ := Pd.cur_at hc
    have hf := h.fits y (List.mem_of_getElem? hy)
    have hn1 := hf.n1
    have hn2 := hf.n2
    have g1 : (0 : Int) ≤ (lb a p.l : Int) ∧ (lb a p.l : Int) < (p.l.length : Int) := ⟨by omega, by omega⟩
    have e1 : iw .i64 (y.n - 1) = y.n - 1 := by rw [iw64] <;> omega
    simp only [go_sem,Nat.reduceAdd,Nat.reduceSub,Nat.reduceMul,Nat.reduceEqDiff,Nat.reduceLeDiff,Nat.reduceLT,↓reduceIte,Int.reduceToNat,reduceCtorEq,Int.reduceLT,Int.reduceLE,Int.reduceGT,Int.reduceGE,Int.reduceEq,Int.reduceNe,Int.reduceNeg,Int.reduceAdd,Int.reduceSub,Option.isSome_some]
    refine rK_use (enters_of Tryz.func58 rfl (by decide)) (pcopied_u p h.fit _) ?_
    have hset : (p.l.map rp).set (lb a p.l) [iv y.at_, bv y.old, iv (y.n - 1)] = (p.l.set (lb a p.l) ⟨y.at_, y.old, y.n - 1⟩).map rp := set_rp _ _ ⟨y.at_, y.old, y.n - 1⟩
    have hs1 : (p.l.set (lb a p.l) ⟨y.at_, y.old, y.n - 1⟩)[lb a p.l]? = some ⟨y.at_, y.old, y.n - 1⟩ := List.getElem?_set_self hlb
    simp only [go_sem,Nat.reduceAdd,Nat.reduceSub,Nat.reduceMul,Nat.reduceEqDiff,Nat.reduceLeDiff,Nat.reduceLT,↓reduceIte,Int.reduceToNat,reduceCtorEq,Int.reduceLT,Int.reduceLE,Int.reduceGT,Int.reduceGE,Int.reduceEq,Int.reduceNe,Int.reduceNeg,Int.reduceAdd,Int.reduceSub,g1,hy,List.length_map,List.getElem?_map,e1,hlb,hset,hs1,List.length_set]
    by_cases hn : y.n = 1
    · rw [if_pos hn] at hpost
      have hz : y.n - 1 = 0 := by omega
      have e2 : iw .i64 ((lb a p.l : Int) + 1) = ((lb a p.l + 1 : Nat) : Int) := by rw [iw64] <;> omega
      have g2 : (0 : Int) ≤ a ∧ a < (p.s.byt.length : Int) := by rw [← hya]; exact ⟨hf.a0, hf.a1⟩
      have g3 : a.toNat < p.s.byt.length := by omega
      obtain ⟨z, hzz⟩ := at_lt (l := p.s.byt) (i := a.toNat) g3
      have eset : (p.s.byt.map rb).set a.toNat [.int .u8 (y.old.toNat : Int)] = (p.s.put a.toNat y.old).byt.map rb := by rw [Sp.put, List.map_set]
      simp only [go_sem,Nat.reduceAdd,Nat.reduceSub,Nat.reduceMul,Nat.reduceEqDiff,Nat.reduceLeDiff,Nat.reduceLT,↓reduceIte,Int.reduceToNat,reduceCtorEq,Int.reduceLT,Int.reduceLE,Int.reduceGT,Int.reduceGE,Int.reduceEq,Int.reduceNe,Int.reduceNeg,Int.reduceAdd,Int.reduceSub,eq_true hz]
      refine draw [.qu 0 0, .qu 0 0, .qu 0 0, .qu 0 0, .qu 0 0, .qu 0 0, .qu 0 0, .qu 0 0, .qu 0 0, .qu 0 0, .qu 0 0, .mn 0] (by kernel_rfl) (by kernel_rfl) ?_
      simp only [go_sem,Nat.reduceAdd,Nat.reduceSub,Nat.reduceMul,Nat.reduceEqDiff,Nat.reduceLeDiff,Nat.reduceLT,↓reduceIte,Int.reduceToNat,reduceCtorEq,Int.reduceLT,Int.reduceLE,Int.reduceGT,Int.reduceGE,Int.reduceEq,Int.reduceNe,Int.reduceNeg,Int.reduceAdd,Int.reduceSub,g1,g2,g3,hs1,hzz,List.length_map,List.getElem?_map,List.length_set,eset,e2]
      have hdel := delete_c (p.l.set (lb a p.l) ⟨y.at_, y.old, y.n - 1⟩) (lb a p.l) (by rw [List.length_set]; exact hlb) (by rw [List.length_set]; omega)
      rw [List.length_set, List.eraseIdx_set_eq] at hdel
      refine rK_use (enters_of Tryz.func59 rfl (by decide)) (hdel.useE [4] (.sl 4 0 (p.l.length - 1) none) [.rows 3 [p.cells], .rows 1 [[iv a]], .rows 3 [[.view false 1 (p.s.perm.map r1), .sl 3 0 p.s.byt.length none, .sl 4 0 p.l.length none]], .rows 1 ((p.s.put a.toNat y.old).byt.map rb), .rows 3 ((p.l.eraseIdx (lb a p.l)).map rp ++ [rz])] (by simp) rfl (by simp) ?_ rfl rfl ?_) ?_
      · simp only [List.map_cons, List.map_nil, bren_rp, List.getElem?_cons_succ, List.getElem?_cons_zero]
      · have : Blk.ren (pi [4] 5) (.rows 3 ((p.l.eraseIdx (lb a p.l)).map rp ++ [rz])) = .rows 3 ((p.l.eraseIdx (lb a p.l)).map rp ++ [rz]) := bren_lt (m := 0) (fun k hk => absurd hk (Nat.not_lt_zero _)) (fun row hr => by
          rcases List.mem_append.1 hr with hr | hr
          · exact rp_lt0 _ row hr
          · rw [List.mem_singleton] at hr; subst hr; rfl)
        simp only [patch, setMany, List.length_cons, List.length_nil, List.drop_succ_cons, List.drop_zero, List.map_cons, List.map_nil, Nat.zero_add, Nat.reduceAdd, this]
        rfl
      have hle : (p.l.eraseIdx (lb a p.l)).length = p.l.length - 1 := by rw [List.length_eraseIdx, if_pos hlb]
      simp only [go_sem,Nat.reduceAdd,Nat.reduceSub,Nat.reduceMul,Nat.reduceEqDiff,Nat.reduceLeDiff,Nat.reduceLT,↓reduceIte,Int.reduceToNat,reduceCtorEq,Int.reduceLT,Int.reduceLE,Int.reduceGT,Int.reduceGE,Int.reduceEq,Int.reduceNe,Int.reduceNeg,Int.reduceAdd,Int.reduceSub,Pd.cells]
      refine up_cell (q := ⟨p.s.put a.toNat y.old, p.l.eraseIdx (lb a p.l)⟩) p.s.byt.length (p.l.length - 1) _ _ (List.take_of_length_le (by simp [Sp.put])) ?_ (by simp [Sp.put]) (by simp [hle]) (rb_lt0 _) ?_ ?_
      · rw [List.take_append_of_le_length (by simp [hle]), List.take_of_length_le (by simp [hle])]
      · intro row hr
        rcases List.mem_append.1 hr with hr | hr
        · exact rp_lt0 _ row hr
        · rw [List.mem_singleton] at hr; subst hr; rfl
      · rw [← hpost]
        exact ⟨rfl, rfl⟩
    · rw [if_neg hn] at hpost
      have hz : ¬ y.n - 1 = 0 := by omega
      simp only [go_sem,Nat.reduceAdd,Nat.reduceSub,Nat.reduceMul,Nat.reduceEqDiff,Nat.reduceLeDiff,Nat.reduceLT,↓reduceIte,Int.reduceToNat,reduceCtorEq,Int.reduceLT,Int.reduceLE,Int.reduceGT,Int.reduceGE,Int.reduceEq,Int.reduceNe,Int.reduceNeg,Int.reduceAdd,Int.reduceSub,eq_false hz]
      refine up_cell (q := ⟨p.s, p.l.set (lb a p.l) ⟨y.at_, y.old, y.n - 1⟩⟩) p.s.byt.length p.l.length _ _ (List.take_of_length_le (by simp)) (List.take_of_length_le (by simp)) (by simp) (by simp) (rb_lt0 _) (rp_lt0 _) ?_
      rw [← hpost]
      exact ⟨rfl, rfl⟩
noncomputable def Pd.remA (p : Pd) (a : Int) : Pd × Int := if p.chk = 0 then p.rem a else (p0, 70)
theorem remA_ok {p : Pd} (h : p.ok) (a : Int) : p.remA a = p.rem a := if_pos (Pd.chk_ok h)
theorem remA_no {p : Pd} (h : ¬ p.ok) (a : Int) : p.remA a = (p0, 70) := if_neg (by rw [Pd.chk_no h]; decide)
theorem rem_p0 (p : Pd) (a : Int) (h0 : (p.remA a).2 ≠ 0) : (p.remA a).1 = p0 := by
  by_cases h : p.ok
  · rw [remA_ok h] at h0 ⊢
    unfold Pd.rem at h0 ⊢
    cases hc : p.cur a with
    | none => rfl
    | some y =>
      rw [hc] at h0
      simp only at h0 ⊢
      split at h0 <;> exact absurd rfl h0
  · rw [remA_no h]
theorem remove1_pan (p : Pd) (a : Int) (h0 : (p.remA a).2 ≠ 0) : ACalls Tryz.prog 56 [.ptr 0 0 0, .ptr 1 0 0, .ptr 2 0 0] [.rows 3 [p.cells], .rows 1 [[iv a]], .rows 3 [pdN]] (fun o H => o = .pan (rfd (p.remA a).2) ∧ H = [.rows 3 [p.cells], .rows 1 [[iv a]], .rows 3 [pdN]]) := by
  refine ACalls.up ?_
  refine ACalls.intro (cs := []) (n := 54) Tryz.func56 rfl rfl rfl (by kernel_rfl) rfl ?_
  generalize hpost : (fun (o : Out) (H : Heap) => o = Out.pan (rfd (p.remA a).2) ∧ H = [.rows 3 [p.cells], .rows 1 [[iv a]], .rows 3 [pdN]]) = post
  have fin : ∀ n, n = (p.remA a).2 → Up 3 post (.pan (rfd n)) [.rows 3 [p.cells], .rows 1 [[iv a]], .rows 3 [pdN]] := fun n h => .done (by rw [← hpost, ← h]; exact ⟨rfl, rfl⟩)
  simp only [go_sem,Nat.reduceAdd,Nat.reduceSub,Nat.reduceMul,Nat.reduceEqDiff,Nat.reduceLeDiff,Nat.reduceLT,↓reduceIte,Int.reduceToNat,reduceCtorEq,Int.reduceLT,Int.reduceLE,Int.reduceGT,Int.reduceGE,Int.reduceEq,Int.reduceNe,Int.reduceNeg,Int.reduceAdd,Int.reduceSub,Pd.cells,pdN]
  refine rK_use (enters_of Tryz.func25 rfl (by decide)) (ACalls.pure_use (pcheck_c p) rfl rfl) ?_
  by_cases h : p.ok
  rotate_left
  · rw [Pd.chk_no h]
    simp only [go_sem,Nat.reduceAdd,Nat.reduceSub,Nat.reduceMul,Nat.reduceEqDiff,Nat.reduceLeDiff,Nat.reduceLT,↓reduceIte,Int.reduceToNat,reduceCtorEq,Int.reduceLT,Int.reduceLE,Int.reduceGT,Int.reduceGE,Int.reduceEq,Int.reduceNe,Int.reduceNeg,Int.reduceAdd,Int.reduceSub]
    refine rK_pans (enters_of Tryz.func57 rfl (by decide)) (ACalls.pure_pan (pmust_no 70 (by decide)) rfl rfl) ?_
    simp only [go_sem,Nat.reduceAdd,Nat.reduceSub,Nat.reduceMul,Nat.reduceEqDiff,Nat.reduceLeDiff,Nat.reduceLT,↓reduceIte,Int.reduceToNat,reduceCtorEq,Int.reduceLT,Int.reduceLE,Int.reduceGT,Int.reduceGE,Int.reduceEq,Int.reduceNe,Int.reduceNeg,Int.reduceAdd,Int.reduceSub]
    exact fin 70 (by rw [remA_no h])
  have hl := h.len
  rw [Pd.chk_ok h]
  simp only [go_sem,Nat.reduceAdd,Nat.reduceSub,Nat.reduceMul,Nat.reduceEqDiff,Nat.reduceLeDiff,Nat.reduceLT,↓reduceIte,Int.reduceToNat,reduceCtorEq,Int.reduceLT,Int.reduceLE,Int.reduceGT,Int.reduceGE,Int.reduceEq,Int.reduceNe,Int.reduceNeg,Int.reduceAdd,Int.reduceSub]
  refine rK_use (enters_of Tryz.func57 rfl (by decide)) (ACalls.pure_use (pmust_ok) rfl rfl) ?_
  simp only [go_sem,Nat.reduceAdd,Nat.reduceSub,Nat.reduceMul,Nat.reduceEqDiff,Nat.reduceLeDiff,Nat.reduceLT,↓reduceIte,Int.reduceToNat,reduceCtorEq,Int.reduceLT,Int.reduceLE,Int.reduceGT,Int.reduceGE,Int.reduceEq,Int.reduceNe,Int.reduceNeg,Int.reduceAdd,Int.reduceSub]
  refine rK_use (enters_of Tryz.func48 rfl (by decide)) (ACalls.pure_use (find_c p.l h.sor (by omega) a) rfl rfl) ?_
  rw [fnd_cur]
  rw [remA_ok h] at h0 fin
  unfold Pd.rem at h0 fin
  cases hc : p.cur a with
  | none =>
    rw [hc] at fin
    simp only [go_sem,Nat.reduceAdd,Nat.reduceSub,Nat.reduceMul,Nat.reduceEqDiff,Nat.reduceLeDiff,Nat.reduceLT,↓reduceIte,Int.reduceToNat,reduceCtorEq,Int.reduceLT,Int.reduceLE,Int.reduceGT,Int.reduceGE,Int.reduceEq,Int.reduceNe,Int.reduceNeg,Int.reduceAdd,Int.reduceSub,Option.isSome_none]
    refine rK_pans (enters_of Tryz.func57 rfl (by decide)) (ACalls.pure_pan (pmust_no 3 (by decide)) rfl rfl) ?_
    simp only [go_sem,Nat.reduceAdd,Nat.reduceSub,Nat.reduceMul,Nat.reduceEqDiff,Nat.reduceLeDiff,Nat.reduceLT,↓reduceIte,Int.reduceToNat,reduceCtorEq,Int.reduceLT,Int.reduceLE,Int.reduceGT,Int.reduceGE,Int.reduceEq,Int.reduceNe,Int.reduceNeg,Int.reduceAdd,Int.reduceSub]
    exact fin 3 rfl
  | some y =>
    rw [hc] at h0
    simp only at h0
    split at h0 <;> exact absurd rfl h0
theorem Remove_c (p : Pd) (a : Int) : ACalls Tryz.prog 19 [p.av, iv a] [] (fun o H => o = .ret (.tuple [(p.remA a).1.av, iv (p.remA a).2]) ∧ H = []) := by
  refine ACalls.up ?_
  refine ACalls.intro (cs := []) (n := 13) Tryz.func19 rfl rfl rfl (by kernel_rfl) rfl ?_
  generalize hpost : (fun (o : Out) (H : Heap) => o = Out.ret (.tuple [(p.remA a).1.av, iv (p.remA a).2]) ∧ H = []) = post
  simp only [go_sem,Nat.reduceAdd,Nat.reduceSub,Nat.reduceMul,Nat.reduceEqDiff,Nat.reduceLeDiff,Nat.reduceLT,↓reduceIte,Int.reduceToNat,reduceCtorEq,Int.reduceLT,Int.reduceLE,Int.reduceGT,Int.reduceGE,Int.reduceEq,Int.reduceNe,Int.reduceNeg,Int.reduceAdd,Int.reduceSub,Pd.av]
  by_cases h0 : (p.remA a).2 = 0
  · have hp : p.ok := Classical.byContradiction fun h => by rw [remA_no h] at h0; cases h0
    have e := remA_ok hp a
    have hcl := remove1_ok p hp a (by rw [← e]; exact h0)
    rw [← e] at hcl
    refine rK_use (enters_of Tryz.func40 rfl (by decide)) (caught_ret (enters_of Tryz.func56 rfl (by decide)) hcl rfl (by simp [Blk.lt, ltL, AV.lt, Pd.cells, pdN]) (by simp [Blk.lt, ltL, AV.lt, Pd.cells]) rfl) ?_
    simp only [go_sem,Nat.reduceAdd,Nat.reduceSub,Nat.reduceMul,Nat.reduceEqDiff,Nat.reduceLeDiff,Nat.reduceLT,↓reduceIte,Int.reduceToNat,reduceCtorEq,Int.reduceLT,Int.reduceLE,Int.reduceGT,Int.reduceGE,Int.reduceEq,Int.reduceNe,Int.reduceNeg,Int.reduceAdd,Int.reduceSub,Pd.cells]
    refine finv rfl ?_ _
    rw [← hpost, h0]
    exact ⟨rfl, rfl⟩
  · refine rK_use (enters_of Tryz.func40 rfl (by decide)) (caught_pan (p.remA a).2 (enters_of Tryz.func56 rfl (by decide)) (remove1_pan p a h0) rfl (by simp [Blk.lt, ltL, AV.lt, Pd.cells, pdN]) (by simp [Blk.lt, ltL, AV.lt, Pd.cells, pdN]) rfl) ?_
    simp only [go_sem,Nat.reduceAdd,Nat.reduceSub,Nat.reduceMul,Nat.reduceEqDiff,Nat.reduceLeDiff,Nat.reduceLT,↓reduceIte,Int.reduceToNat,reduceCtorEq,Int.reduceLT,Int.reduceLE,Int.reduceGT,Int.reduceGE,Int.reduceEq,Int.reduceNe,Int.reduceNeg,Int.reduceAdd,Int.reduceSub,Pd.cells,pdN,eq_false h0]
    refine .le (.ret (.tuple (.cons pdN_le (.cons (.refl _) .nil)))) (LeH.refl _) (finv rfl ?_ _)
    rw [← hpost, rem_p0 p a h0]
    exact ⟨rfl, rfl⟩
end Go.Proofs.YtfiflailjbmlpaaGreatDoor
set_option maxRecDepth 100000
set_option linter.unusedVariables false
set_option linter.unusedSimpArgs false
namespace Go.Proofs.YtfiflailjbmlpaaGreatDoor
open Go.AM
theorem has_cur {p : Pd} (hs : Srt p.l) (a : Int) : p.has a = (p.cur a).isSome := by
  cases hc : p.cur a with
  | none => exact (Pd.cur_none hs).1 hc
  | some y =>
    have := (Pd.cur_some hs).1 hc
    exact Pd.has_true.2 ⟨y, this.1, this.2⟩
theorem pstep_c (p : Pd) (h : p.ok) (r : Rg) (hr : r.wf) (slot : Int) (hs : I64 slot) : ACalls Tryz.prog 42 [p.av, r.av, iv slot] [] (fun o H => o = .ret (.tuple [(p.stepE r slot).1.av, iv (p.stepE r slot).2]) ∧ H = []) := by
  refine ACalls.up ?_
  refine ACalls.intro (cs := []) (n := 131) Tryz.func42 rfl rfl rfl (by kernel_rfl) rfl ?_
  generalize hpost : (fun (o : Out) (H : Heap) => o = Out.ret (.tuple [(p.stepE r slot).1.av, iv (p.stepE r slot).2]) ∧ H = []) = post
  have fin : ∀ (e : Eff) n H, (e, n) = p.stepE r slot → Up 0 post (.ret (.tuple [.agg e.cells, iv n])) H := fun e n H h => finv (by simp [AV.lt, ltL, Eff.cells, Eff.cellsD]) (by rw [← hpost, ← h]; exact ⟨rfl, rfl⟩) H
  have hl := h.len
  simp only [go_sem,Nat.reduceAdd,Nat.reduceSub,Nat.reduceMul,Nat.reduceEqDiff,Nat.reduceLeDiff,Nat.reduceLT,↓reduceIte,Int.reduceToNat,reduceCtorEq,Int.reduceLT,Int.reduceLE,Int.reduceGT,Int.reduceGE,Int.reduceEq,Int.reduceNe,Int.reduceNeg,Int.reduceAdd,Int.reduceSub,Pd.av,Rg.av,Rg.cells]
  refine rK_use (enters_of Tryz.func25 rfl (by decide)) (ACalls.pure_use (pcheck_c p) rfl rfl) ?_
  rw [Pd.chk_ok h]
  simp only [go_sem,Nat.reduceAdd,Nat.reduceSub,Nat.reduceMul,Nat.reduceEqDiff,Nat.reduceLeDiff,Nat.reduceLT,↓reduceIte,Int.reduceToNat,reduceCtorEq,Int.reduceLT,Int.reduceLE,Int.reduceGT,Int.reduceGE,Int.reduceEq,Int.reduceNe,Int.reduceNeg,Int.reduceAdd,Int.reduceSub]
  refine rK_use (enters_of Tryz.func57 rfl (by decide)) (ACalls.pure_use (pmust_ok) rfl rfl) ?_
  simp only [go_sem,Nat.reduceAdd,Nat.reduceSub,Nat.reduceMul,Nat.reduceEqDiff,Nat.reduceLeDiff,Nat.reduceLT,↓reduceIte,Int.reduceToNat,reduceCtorEq,Int.reduceLT,Int.reduceLE,Int.reduceGT,Int.reduceGE,Int.reduceEq,Int.reduceNe,Int.reduceNeg,Int.reduceAdd,Int.reduceSub]
  refine rK_use (enters_of Tryz.func48 rfl (by decide)) (ACalls.pure_use (find_c p.l h.sor (by omega) r.pc) rfl rfl) ?_
  rw [fnd_cur]
  cases hc : p.cur r.pc with
  | none =>
    simp only [go_sem,Nat.reduceAdd,Nat.reduceSub,Nat.reduceMul,Nat.reduceEqDiff,Nat.reduceLeDiff,Nat.reduceLT,↓reduceIte,Int.reduceToNat,reduceCtorEq,Int.reduceLT,Int.reduceLE,Int.reduceGT,Int.reduceGE,Int.reduceEq,Int.reduceNe,Int.reduceNeg,Int.reduceAdd,Int.reduceSub,Option.isSome_none]
    refine rK_use (enters_of Tryz.func35 rfl (by decide)) (ACalls.pure_use (Step_c p.s h.sok r hr) rfl rfl) ?_
    simp only [go_sem,Nat.reduceAdd,Nat.reduceSub,Nat.reduceMul,Nat.reduceEqDiff,Nat.reduceLeDiff,Nat.reduceLT,↓reduceIte,Int.reduceToNat,reduceCtorEq,Int.reduceLT,Int.reduceLE,Int.reduceGT,Int.reduceGE,Int.reduceEq,Int.reduceNe,Int.reduceNeg,Int.reduceAdd,Int.reduceSub,Eff.av,Eff.cells,Eff.cellsD]
    refine rK_use (enters_of Tryz.func57 rfl (by decide)) (ACalls.pure_use (pmust_ok) rfl rfl) ?_
    simp only [go_sem,Nat.reduceAdd,Nat.reduceSub,Nat.reduceMul,Nat.reduceEqDiff,Nat.reduceLeDiff,Nat.reduceLT,↓reduceIte,Int.reduceToNat,reduceCtorEq,Int.reduceLT,Int.reduceLE,Int.reduceGT,Int.reduceGE,Int.reduceEq,Int.reduceNe,Int.reduceNeg,Int.reduceAdd,Int.reduceSub]
    exact fin (step p.s r) 0 _ (by rw [Pd.stepE, has_cur h.sor, hc, Option.isSome_none, if_neg (by decide)])
  | some y =>
    have hmem := (Pd.cur_some h.sor).1 hc
    have hst : (stand p.clean r.pc).e = 0 := by rw [← hmem.2]; exact h.std y hmem.1
    have hxo : (stand p.clean r.pc).x.ok := dec_ok hst
    simp only [go_sem,Nat.reduceAdd,Nat.reduceSub,Nat.reduceMul,Nat.reduceEqDiff,Nat.reduceLeDiff,Nat.reduceLT,↓reduceIte,Int.reduceToNat,reduceCtorEq,Int.reduceLT,Int.reduceLE,Int.reduceGT,Int.reduceGE,Int.reduceEq,Int.reduceNe,Int.reduceNeg,Int.reduceAdd,Int.reduceSub,Option.isSome_some]
    have hfi : p.stepE r slot = (if (dispE (stand p.clean r.pc).x r.pc slot).2 = 3 then (exec (stand p.clean r.pc).x p.s r, 3)
        else (fixE (stand p.clean r.pc).x (stand p.clean r.pc).n r.pc slot (exec (dispE (stand p.clean r.pc).x r.pc slot).1 p.s (r.at' slot)), (dispE (stand p.clean r.pc).x r.pc slot).2)) := by
      rw [Pd.stepE, has_cur h.sor, hc, Option.isSome_some, if_pos rfl]
    have hdo := disp_ok hxo r.pc slot
    refine draw [.rd 0 1, .qu 0 1, .qu 0 1, .rd 0 1, .qu 0 1, .qu 0 1, .qu 0 1, .qu 0 2, .mn 0, .mn 1, .qu 2 2] (by kernel_rfl) (by kernel_rfl) ?_
    simp only [go_sem,Nat.reduceAdd,Nat.reduceSub,Nat.reduceMul,Nat.reduceEqDiff,Nat.reduceLeDiff,Nat.reduceLT,↓reduceIte,Int.reduceToNat,reduceCtorEq,Int.reduceLT,Int.reduceLE,Int.reduceGT,Int.reduceGE,Int.reduceEq,Int.reduceNe,Int.reduceNeg,Int.reduceAdd,Int.reduceSub]
    refine y_call (enters_of Tryz.func50 rfl (by decide)) (fun _ => ACalls.pure_use (clean_c p h.fit h.bounds) rfl rfl) ?_
    simp only [go_sem,Nat.reduceAdd,Nat.reduceSub,Nat.reduceMul,Nat.reduceEqDiff,Nat.reduceLeDiff,Nat.reduceLT,↓reduceIte,Int.reduceToNat,reduceCtorEq,Int.reduceLT,Int.reduceLE,Int.reduceGT,Int.reduceGE,Int.reduceEq,Int.reduceNe,Int.reduceNeg,Int.reduceAdd,Int.reduceSub,Sp.av]
    refine y_call (enters_of Tryz.func49 rfl (by decide)) (fun _ => ACalls.pure_use (standing_c p.clean h.cok r.pc) rfl (by simp [sitC, Ins.cells, AV.lt, ltL])) ?_
    simp only [go_sem,Nat.reduceAdd,Nat.reduceSub,Nat.reduceMul,Nat.reduceEqDiff,Nat.reduceLeDiff,Nat.reduceLT,↓reduceIte,Int.reduceToNat,reduceCtorEq,Int.reduceLT,Int.reduceLE,Int.reduceGT,Int.reduceGE,Int.reduceEq,Int.reduceNe,Int.reduceNeg,Int.reduceAdd,Int.reduceSub,sitC,Ins.cells]
    generalize stand p.clean r.pc = D at *
    refine rK_use (enters_of Tryz.func52 rfl (by decide)) (ACalls.pure_use (displaced_c D.x r.pc slot) rfl rfl) ?_
    generalize dispE D.x r.pc slot = E at *
    simp only [go_sem,Nat.reduceAdd,Nat.reduceSub,Nat.reduceMul,Nat.reduceEqDiff,Nat.reduceLeDiff,Nat.reduceLT,↓reduceIte,Int.reduceToNat,reduceCtorEq,Int.reduceLT,Int.reduceLE,Int.reduceGT,Int.reduceGE,Int.reduceEq,Int.reduceNe,Int.reduceNeg,Int.reduceAdd,Int.reduceSub,Ins.av,Ins.cells]
    rcases Decidable.em (E.2 = 3) with h3 | h3
    · simp only [go_sem,Nat.reduceAdd,Nat.reduceSub,Nat.reduceMul,Nat.reduceEqDiff,Nat.reduceLeDiff,Nat.reduceLT,↓reduceIte,Int.reduceToNat,reduceCtorEq,Int.reduceLT,Int.reduceLE,Int.reduceGT,Int.reduceGE,Int.reduceEq,Int.reduceNe,Int.reduceNeg,Int.reduceAdd,Int.reduceSub,eq_true h3]
      refine rK_use (enters_of Tryz.func80 rfl (by decide)) (ACalls.pure_use (Exec_c D.x hxo p.s h.sok r hr) rfl rfl) ?_
      simp only [go_sem,Nat.reduceAdd,Nat.reduceSub,Nat.reduceMul,Nat.reduceEqDiff,Nat.reduceLeDiff,Nat.reduceLT,↓reduceIte,Int.reduceToNat,reduceCtorEq,Int.reduceLT,Int.reduceLE,Int.reduceGT,Int.reduceGE,Int.reduceEq,Int.reduceNe,Int.reduceNeg,Int.reduceAdd,Int.reduceSub,Eff.av,Eff.cells,Eff.cellsD]
      refine rK_use (enters_of Tryz.func57 rfl (by decide)) (ACalls.pure_use (pmust_ok) rfl rfl) ?_
      simp only [go_sem,Nat.reduceAdd,Nat.reduceSub,Nat.reduceMul,Nat.reduceEqDiff,Nat.reduceLeDiff,Nat.reduceLT,↓reduceIte,Int.reduceToNat,reduceCtorEq,Int.reduceLT,Int.reduceLE,Int.reduceGT,Int.reduceGE,Int.reduceEq,Int.reduceNe,Int.reduceNeg,Int.reduceAdd,Int.reduceSub]
      exact fin (exec D.x p.s r) E.2 _ (by rw [hfi, if_pos h3, h3])
    · rw [if_neg h3] at hfi
      simp only [go_sem,Nat.reduceAdd,Nat.reduceSub,Nat.reduceMul,Nat.reduceEqDiff,Nat.reduceLeDiff,Nat.reduceLT,↓reduceIte,Int.reduceToNat,reduceCtorEq,Int.reduceLT,Int.reduceLE,Int.reduceGT,Int.reduceGE,Int.reduceEq,Int.reduceNe,Int.reduceNeg,Int.reduceAdd,Int.reduceSub,eq_false h3]
      refine rK_use (enters_of Tryz.func80 rfl (by decide)) (ACalls.pure_use (Exec_c E.1 hdo p.s h.sok (r.at' slot) ⟨hr.reg, hs⟩) rfl rfl) ?_
      generalize exec E.1 p.s (r.at' slot) = F at *
      simp only [go_sem,Nat.reduceAdd,Nat.reduceSub,Nat.reduceMul,Nat.reduceEqDiff,Nat.reduceLeDiff,Nat.reduceLT,↓reduceIte,Int.reduceToNat,reduceCtorEq,Int.reduceLT,Int.reduceLE,Int.reduceGT,Int.reduceGE,Int.reduceEq,Int.reduceNe,Int.reduceNeg,Int.reduceAdd,Int.reduceSub,Eff.av,Eff.cells,Eff.cellsD]
      refine rK_use (enters_of Tryz.func57 rfl (by decide)) (ACalls.pure_use (pmust_ok) rfl rfl) ?_
      simp only [go_sem,Nat.reduceAdd,Nat.reduceSub,Nat.reduceMul,Nat.reduceEqDiff,Nat.reduceLeDiff,Nat.reduceLT,↓reduceIte,Int.reduceToNat,reduceCtorEq,Int.reduceLT,Int.reduceLE,Int.reduceGT,Int.reduceGE,Int.reduceEq,Int.reduceNe,Int.reduceNeg,Int.reduceAdd,Int.reduceSub]
      refine condD_dec (fun hk => ?_) (fun hk => ?_)
      · simp only [go_sem,Nat.reduceAdd,Nat.reduceSub,Nat.reduceMul,Nat.reduceEqDiff,Nat.reduceLeDiff,Nat.reduceLT,↓reduceIte,Int.reduceToNat,reduceCtorEq,Int.reduceLT,Int.reduceLE,Int.reduceGT,Int.reduceGE,Int.reduceEq,Int.reduceNe,Int.reduceNeg,Int.reduceAdd,Int.reduceSub]
        have e : fixE D.x D.n r.pc slot F = ⟨F.rg.at' r.pc, F.pos, F.data, F.trap, D.x⟩ := by rw [fixE, if_pos hk]
        rw [e] at hfi
        exact fin ⟨F.rg.at' r.pc, F.pos, F.data, F.trap, D.x⟩ E.2 _ hfi.symm
      · have same : ¬ ((D.x.op ≠ 26 ∧ D.x.op ≠ 29) ∧ F.rg.pc = iw .i64 (slot + D.n)) → (⟨F.rg, F.pos, F.data, F.trap, D.x⟩, E.2) = p.stepE r slot := fun hn => by
          rw [hfi, fixE, if_neg hk, if_neg hn]
          rfl
        rcases Decidable.em (D.x.op = 26) with q1 | q1
        · simp only [go_sem,Nat.reduceAdd,Nat.reduceSub,Nat.reduceMul,Nat.reduceEqDiff,Nat.reduceLeDiff,Nat.reduceLT,↓reduceIte,Int.reduceToNat,reduceCtorEq,Int.reduceLT,Int.reduceLE,Int.reduceGT,Int.reduceGE,Int.reduceEq,Int.reduceNe,Int.reduceNeg,Int.reduceAdd,Int.reduceSub,eq_true q1]
          exact fin ⟨F.rg, F.pos, F.data, F.trap, D.x⟩ E.2 _ (same fun h => h.1.1 q1)
        rcases Decidable.em (D.x.op = 29) with q2 | q2
        · simp only [go_sem,Nat.reduceAdd,Nat.reduceSub,Nat.reduceMul,Nat.reduceEqDiff,Nat.reduceLeDiff,Nat.reduceLT,↓reduceIte,Int.reduceToNat,reduceCtorEq,Int.reduceLT,Int.reduceLE,Int.reduceGT,Int.reduceGE,Int.reduceEq,Int.reduceNe,Int.reduceNeg,Int.reduceAdd,Int.reduceSub,eq_false q1,eq_true q2]
          exact fin ⟨F.rg, F.pos, F.data, F.trap, D.x⟩ E.2 _ (same fun h => h.1.2 q2)
        rcases Decidable.em (F.rg.pc = iw .i64 (slot + D.n)) with q3 | q3
        · simp only [go_sem,Nat.reduceAdd,Nat.reduceSub,Nat.reduceMul,Nat.reduceEqDiff,Nat.reduceLeDiff,Nat.reduceLT,↓reduceIte,Int.reduceToNat,reduceCtorEq,Int.reduceLT,Int.reduceLE,Int.reduceGT,Int.reduceGE,Int.reduceEq,Int.reduceNe,Int.reduceNeg,Int.reduceAdd,Int.reduceSub,eq_false q1,eq_false q2,eq_true q3]
          exact fin ⟨F.rg.at' (iw .i64 (r.pc + D.n)), F.pos, F.data, F.trap, D.x⟩ E.2 _ (by rw [hfi, fixE, if_neg hk, if_pos ⟨⟨q1, q2⟩, q3⟩])
        · simp only [go_sem,Nat.reduceAdd,Nat.reduceSub,Nat.reduceMul,Nat.reduceEqDiff,Nat.reduceLeDiff,Nat.reduceLT,↓reduceIte,Int.reduceToNat,reduceCtorEq,Int.reduceLT,Int.reduceLE,Int.reduceGT,Int.reduceGE,Int.reduceEq,Int.reduceNe,Int.reduceNeg,Int.reduceAdd,Int.reduceSub,eq_false q1,eq_false q2,eq_false q3]
          exact fin ⟨F.rg, F.pos, F.data, F.trap, D.x⟩ E.2 _ (same fun h => q3 h.2)
theorem PStep_c (p : Pd) (h : p.ok) (r : Rg) (hr : r.wf) (slot : Int) (hs : I64 slot) : ACalls Tryz.prog 11 [p.av, r.av, iv slot] [] (fun o H => o = .ret (.tuple [(p.stepE r slot).1.av, iv (p.stepE r slot).2, iv 0]) ∧ H = []) := by
  refine ACalls.up ?_
  refine ACalls.intro (cs := []) (n := 17) Tryz.func11 rfl rfl rfl (by kernel_rfl) rfl ?_
  generalize hpost : (fun (o : Out) (H : Heap) => o = Out.ret (.tuple [(p.stepE r slot).1.av, iv (p.stepE r slot).2, iv 0]) ∧ H = []) = post
  simp only [go_sem,Nat.reduceAdd,Nat.reduceSub,Nat.reduceMul,Nat.reduceEqDiff,Nat.reduceLeDiff,Nat.reduceLT,↓reduceIte,Int.reduceToNat,reduceCtorEq,Int.reduceLT,Int.reduceLE,Int.reduceGT,Int.reduceGE,Int.reduceEq,Int.reduceNe,Int.reduceNeg,Int.reduceAdd,Int.reduceSub,Pd.av,Rg.av,Rg.cells]
  have hcl : ACalls Tryz.prog 41 [.ptr 0 0 0, .ptr 1 0 0, .ptr 2 0 0, .ptr 3 0 0, .ptr 4 0 0] [.rows 3 [p.cells], .rows 9 [r.cells], .rows 1 [[iv slot]], .rows 19 [eff0.cellsD dnil], .rows 1 [[iv 0]]] (fun o H => o = .ret (.tuple []) ∧ H = [.rows 3 [p.cells], .rows 9 [r.cells], .rows 1 [[iv slot]], .rows 19 [(p.stepE r slot).1.cells], .rows 1 [[iv (p.stepE r slot).2]]]) := by
    refine ACalls.up ?_
    refine ACalls.intro (cs := []) (n := 12) Tryz.func41 rfl rfl rfl (by kernel_rfl) rfl ?_
    simp only [go_sem,Nat.reduceAdd,Nat.reduceSub,Nat.reduceMul,Nat.reduceEqDiff,Nat.reduceLeDiff,Nat.reduceLT,↓reduceIte,Int.reduceToNat,reduceCtorEq,Int.reduceLT,Int.reduceLE,Int.reduceGT,Int.reduceGE,Int.reduceEq,Int.reduceNe,Int.reduceNeg,Int.reduceAdd,Int.reduceSub,Pd.cells,Rg.cells,Eff.cellsD,eff0]
    refine rK_use (enters_of Tryz.func42 rfl (by decide)) (ACalls.pure_use (pstep_c p h r hr slot hs) rfl rfl) ?_
    generalize p.stepE r slot = E at *
    simp only [go_sem,Nat.reduceAdd,Nat.reduceSub,Nat.reduceMul,Nat.reduceEqDiff,Nat.reduceLeDiff,Nat.reduceLT,↓reduceIte,Int.reduceToNat,reduceCtorEq,Int.reduceLT,Int.reduceLE,Int.reduceGT,Int.reduceGE,Int.reduceEq,Int.reduceNe,Int.reduceNeg,Int.reduceAdd,Int.reduceSub,Eff.av,Eff.cells,Eff.cellsD]
    exact .done ⟨rfl, rfl⟩
  refine rK_use (enters_of Tryz.func40 rfl (by decide)) (caught_ret (enters_of Tryz.func41 rfl (by decide)) hcl rfl (by simp [Blk.lt, ltL, AV.lt, Pd.cells, Rg.cells, Eff.cellsD]) (by simp [Blk.lt, ltL, AV.lt, Pd.cells, Rg.cells, Eff.cells, Eff.cellsD]) rfl) ?_
  generalize p.stepE r slot = E at *
  simp only [go_sem,Nat.reduceAdd,Nat.reduceSub,Nat.reduceMul,Nat.reduceEqDiff,Nat.reduceLeDiff,Nat.reduceLT,↓reduceIte,Int.reduceToNat,reduceCtorEq,Int.reduceLT,Int.reduceLE,Int.reduceGT,Int.reduceGE,Int.reduceEq,Int.reduceNe,Int.reduceNeg,Int.reduceAdd,Int.reduceSub,Eff.cells,Eff.cellsD]
  refine draw [.qu 0 0, .rd 0 1, .mn 0, .mn 1, .qu 2 2] (by kernel_rfl) (by kernel_rfl) ?_
  simp only [go_sem,Nat.reduceAdd,Nat.reduceSub,Nat.reduceMul,Nat.reduceEqDiff,Nat.reduceLeDiff,Nat.reduceLT,↓reduceIte,Int.reduceToNat,reduceCtorEq,Int.reduceLT,Int.reduceLE,Int.reduceGT,Int.reduceGE,Int.reduceEq,Int.reduceNe,Int.reduceNeg,Int.reduceAdd,Int.reduceSub]
  refine finv (by simp [AV.lt, ltL]) ?_ _
  rw [← hpost]
  exact ⟨rfl, rfl⟩
end Go.Proofs.YtfiflailjbmlpaaGreatDoor
set_option maxRecDepth 100000
set_option linter.unusedVariables false
set_option linter.unusedSimpArgs false
namespace Go.Proofs.YtfiflailjbmlpaaGreatDoor
open Go.AM
def twoP : Pd := ⟨⟨[4, 3], [144, 0, 1, 153, 122, 127, 155, 10, 0] ++ List.replicate 119 0⟩, []⟩
theorem two_c : ACalls Tryz.prog 39 [] [] (fun o H => o = .ret twoP.av ∧ H = []) := by
  refine ACalls.up ?_
  refine ACalls.intro (cs := []) (n := 8) Tryz.func39 rfl rfl rfl (by kernel_rfl) rfl ?_
  generalize hpost : (fun (o : Out) (H : Heap) => o = Out.ret twoP.av ∧ H = []) = post
  simp only [go_sem,Nat.reduceAdd,Nat.reduceSub,Nat.reduceMul,Nat.reduceEqDiff,Nat.reduceLeDiff,Nat.reduceLT,↓reduceIte,Int.reduceToNat,reduceCtorEq,Int.reduceLT,Int.reduceLE,Int.reduceGT,Int.reduceGE,Int.reduceEq,Int.reduceNe,Int.reduceNeg,Int.reduceAdd,Int.reduceSub]
  refine .le (o' := .ret (.agg [.sl 3 0 2 (some 2), .sl 2 0 128 none, .view false 3 []])) (.ret (.agg (.cons (.refl _) (.cons (.refl _) (.cons (.nil true false 0 3 (by simp)) .nil))))) (LeH.refl _) ?_
  refine up_two 3 1 (twoP.s.perm.map r1) 2 1 (twoP.s.byt.map rb) (by decide) rfl rfl (r1_lt0 _) (rb_lt0 _) ?_ ?_ ?_ ?_
  · simp [Out.fzOk, AV.fzOk, fzOkL, twoP]
  · simp [Out.fzOk, Out.fz, AV.fz, fzL, AV.fzOk, fzOkL, twoP]
  · rfl
  · rw [← hpost]
    exact ⟨rfl, rfl⟩
theorem two_ok : twoP.ok := ⟨by decide, by decide, List.Pairwise.nil, (fun x h => by cases h), (fun x h => by cases h)⟩
def p1P : Pd := ⟨twoP.s.put 0 204, [⟨0, 144, 1⟩]⟩
def p2P : Pd := ⟨twoP.s.put 0 204, [⟨0, 144, 2⟩]⟩
theorem I64z : I64 0 := by unfold I64; omega
theorem it1 : twoP.inst 0 = (p1P, 0) := by kernel_rfl
theorem it2 : twoP.inst 1 = (p0, 71) := by kernel_rfl
theorem it3 : p1P.inst 0 = (p2P, 0) := by kernel_rfl
theorem it4 : p2P.rem 0 = (p1P, 0) := by kernel_rfl
theorem it5 : p1P.rem 0 = (twoP, 0) := by kernel_rfl
theorem p1_ok : p1P.ok := by
  obtain ⟨z, h, _⟩ := inst_ok two_ok I64z (by rw [it1])
  rw [it1] at h
  exact h.ok
theorem p2_ok : p2P.ok := by
  obtain ⟨z, h, _⟩ := inst_ok p1_ok I64z (by rw [it3])
  rw [it3] at h
  exact h.ok
theorem instA_ok {p : Pd} (h : p.ok) (a : Int) : p.instA a = p.inst a := if_pos h
def rgP : Rg := ⟨4, 0, 0, 0, 0, 0, 0, 0, 0⟩
theorem sane_c : ACalls Tryz.prog 10 [] [] (fun o H => o = .ret (.bool true) ∧ H = []) := by
  refine ACalls.up ?_
  refine ACalls.intro (cs := []) (n := 178) Tryz.func10 rfl rfl rfl (by kernel_rfl) rfl ?_
  generalize hpost : (fun (o : Out) (H : Heap) => o = Out.ret (.bool true) ∧ H = []) = post
  obtain ⟨E, hE, s1, s2, s3, s4⟩ : ∃ E, p1P.stepE rgP 1000 = E ∧ E.2 = 1 ∧ E.1.rg.r0 = 5 ∧ E.1.rg.pc = 3 ∧ E.1.x.op = 16 := ⟨_, rfl, by kernel_rfl, by kernel_rfl, by kernel_rfl, by kernel_rfl⟩
  have hwf : rgP.wf := wf0 (by decide)
  simp only [go_sem,Nat.reduceAdd,Nat.reduceSub,Nat.reduceMul,Nat.reduceEqDiff,Nat.reduceLeDiff,Nat.reduceLT,↓reduceIte,Int.reduceToNat,reduceCtorEq,Int.reduceLT,Int.reduceLE,Int.reduceGT,Int.reduceGE,Int.reduceEq,Int.reduceNe,Int.reduceNeg,Int.reduceAdd,Int.reduceSub]
  refine rK_use (enters_of Tryz.func39 rfl (by decide)) (ACalls.pure_use (two_c) rfl rfl) ?_
  simp only [go_sem,Nat.reduceAdd,Nat.reduceSub,Nat.reduceMul,Nat.reduceEqDiff,Nat.reduceLeDiff,Nat.reduceLT,↓reduceIte,Int.reduceToNat,reduceCtorEq,Int.reduceLT,Int.reduceLE,Int.reduceGT,Int.reduceGE,Int.reduceEq,Int.reduceNe,Int.reduceNeg,Int.reduceAdd,Int.reduceSub]
  refine rK_use (enters_of Tryz.func18 rfl (by decide)) (ACalls.pure_use (Install_c twoP 0 I64z) rfl rfl) ?_
  rw [instA_ok two_ok, it1]
  simp only [go_sem,Nat.reduceAdd,Nat.reduceSub,Nat.reduceMul,Nat.reduceEqDiff,Nat.reduceLeDiff,Nat.reduceLT,↓reduceIte,Int.reduceToNat,reduceCtorEq,Int.reduceLT,Int.reduceLE,Int.reduceGT,Int.reduceGE,Int.reduceEq,Int.reduceNe,Int.reduceNeg,Int.reduceAdd,Int.reduceSub,Pd.av]
  refine rK_use (enters_of Tryz.func39 rfl (by decide)) (ACalls.pure_use (two_c) rfl rfl) ?_
  simp only [go_sem,Nat.reduceAdd,Nat.reduceSub,Nat.reduceMul,Nat.reduceEqDiff,Nat.reduceLeDiff,Nat.reduceLT,↓reduceIte,Int.reduceToNat,reduceCtorEq,Int.reduceLT,Int.reduceLE,Int.reduceGT,Int.reduceGE,Int.reduceEq,Int.reduceNe,Int.reduceNeg,Int.reduceAdd,Int.reduceSub]
  refine rK_use (enters_of Tryz.func18 rfl (by decide)) (ACalls.pure_use (Install_c twoP 1 (by unfold I64; omega)) rfl rfl) ?_
  rw [instA_ok two_ok, it2]
  have f1 : p1P.l.map rp = [[iv 0, .int .u8 144, iv 1]] := rfl
  have f2 : (p1P.s.byt.map rb).length = 128 := rfl
  have f3 : (p1P.s.byt.map rb)[0]? = some [.int .u8 204] := rfl
  simp only [go_sem,Nat.reduceAdd,Nat.reduceSub,Nat.reduceMul,Nat.reduceEqDiff,Nat.reduceLeDiff,Nat.reduceLT,↓reduceIte,Int.reduceToNat,reduceCtorEq,Int.reduceLT,Int.reduceLE,Int.reduceGT,Int.reduceGE,Int.reduceEq,Int.reduceNe,Int.reduceNeg,Int.reduceAdd,Int.reduceSub,Pd.av,f1,f2,f3,E92]
  refine rK_use (enters_of Tryz.func18 rfl (by decide)) (ACalls.pure_use (Install_c p1P 0 I64z) rfl rfl) ?_
  rw [instA_ok p1_ok, it3]
  simp only [go_sem,Nat.reduceAdd,Nat.reduceSub,Nat.reduceMul,Nat.reduceEqDiff,Nat.reduceLeDiff,Nat.reduceLT,↓reduceIte,Int.reduceToNat,reduceCtorEq,Int.reduceLT,Int.reduceLE,Int.reduceGT,Int.reduceGE,Int.reduceEq,Int.reduceNe,Int.reduceNeg,Int.reduceAdd,Int.reduceSub,Pd.av]
  refine rK_use (enters_of Tryz.func19 rfl (by decide)) (ACalls.pure_use (Remove_c p2P 0) rfl rfl) ?_
  rw [remA_ok p2_ok, it4]
  simp only [go_sem,Nat.reduceAdd,Nat.reduceSub,Nat.reduceMul,Nat.reduceEqDiff,Nat.reduceLeDiff,Nat.reduceLT,↓reduceIte,Int.reduceToNat,reduceCtorEq,Int.reduceLT,Int.reduceLE,Int.reduceGT,Int.reduceGE,Int.reduceEq,Int.reduceNe,Int.reduceNeg,Int.reduceAdd,Int.reduceSub,Pd.av]
  refine rK_use (enters_of Tryz.func19 rfl (by decide)) (ACalls.pure_use (Remove_c p1P 0) rfl rfl) ?_
  rw [remA_ok p1_ok, it5]
  simp only [go_sem,Nat.reduceAdd,Nat.reduceSub,Nat.reduceMul,Nat.reduceEqDiff,Nat.reduceLeDiff,Nat.reduceLT,↓reduceIte,Int.reduceToNat,reduceCtorEq,Int.reduceLT,Int.reduceLE,Int.reduceGT,Int.reduceGE,Int.reduceEq,Int.reduceNe,Int.reduceNeg,Int.reduceAdd,Int.reduceSub,Pd.av]
  have d1 : dispE ⟨25, 0, 0, -6⟩ 3 100 = (⟨25, 0, 0, -103⟩, 2) := by kernel_rfl
  have d2 : dispE ⟨21, 0, 1, 5⟩ 0 5 = (⟨21, 0, 1, 5⟩, 3) := by kernel_rfl
  have d3 : dispE ⟨27, 0, 0, 10⟩ 6 100 = (⟨27, 0, 0, 10⟩, 3) := by kernel_rfl
  refine rK_use (enters_of Tryz.func15 rfl (by decide)) (ACalls.pure_use (Displace_c ⟨25, 0, 0, -6⟩ (by decide) 3 100) rfl rfl) ?_
  rw [d1]
  simp only [go_sem,Nat.reduceAdd,Nat.reduceSub,Nat.reduceMul,Nat.reduceEqDiff,Nat.reduceLeDiff,Nat.reduceLT,↓reduceIte,Int.reduceToNat,reduceCtorEq,Int.reduceLT,Int.reduceLE,Int.reduceGT,Int.reduceGE,Int.reduceEq,Int.reduceNe,Int.reduceNeg,Int.reduceAdd,Int.reduceSub,Ins.av,Ins.cells]
  refine rK_use (enters_of Tryz.func15 rfl (by decide)) (ACalls.pure_use (Displace_c ⟨21, 0, 1, 5⟩ (by decide) 0 5) rfl rfl) ?_
  rw [d2]
  simp only [go_sem,Nat.reduceAdd,Nat.reduceSub,Nat.reduceMul,Nat.reduceEqDiff,Nat.reduceLeDiff,Nat.reduceLT,↓reduceIte,Int.reduceToNat,reduceCtorEq,Int.reduceLT,Int.reduceLE,Int.reduceGT,Int.reduceGE,Int.reduceEq,Int.reduceNe,Int.reduceNeg,Int.reduceAdd,Int.reduceSub,Ins.av,Ins.cells]
  refine rK_use (enters_of Tryz.func15 rfl (by decide)) (ACalls.pure_use (Displace_c ⟨27, 0, 0, 10⟩ (by decide) 6 100) rfl rfl) ?_
  rw [d3]
  have f4 : twoP.l.map rp = [] := rfl
  have f5 : (twoP.s.byt.map rb).length = 128 := rfl
  have f6 : (twoP.s.byt.map rb)[0]? = some [.int .u8 144] := rfl
  simp only [go_sem,Nat.reduceAdd,Nat.reduceSub,Nat.reduceMul,Nat.reduceEqDiff,Nat.reduceLeDiff,Nat.reduceLT,↓reduceIte,Int.reduceToNat,reduceCtorEq,Int.reduceLT,Int.reduceLE,Int.reduceGT,Int.reduceGE,Int.reduceEq,Int.reduceNe,Int.reduceNeg,Int.reduceAdd,Int.reduceSub,Ins.av,Ins.cells,f4,f5,f6]
  refine rK_use (enters_of Tryz.func11 rfl (by decide)) (ACalls.pure_use (PStep_c p1P p1_ok rgP hwf 1000 (by unfold I64; omega)) rfl rfl) ?_
  rw [hE]
  simp only [go_sem,Nat.reduceAdd,Nat.reduceSub,Nat.reduceMul,Nat.reduceEqDiff,Nat.reduceLeDiff,Nat.reduceLT,↓reduceIte,Int.reduceToNat,reduceCtorEq,Int.reduceLT,Int.reduceLE,Int.reduceGT,Int.reduceGE,Int.reduceEq,Int.reduceNe,Int.reduceNeg,Int.reduceAdd,Int.reduceSub,Eff.av,Eff.cells,Eff.cellsD,s1,s2,s3,s4]
  refine finv rfl ?_ _
  rw [← hpost]
  exact ⟨rfl, rfl⟩
end Go.Proofs.YtfiflailjbmlpaaGreatDoor
set_option maxRecDepth 100000
set_option linter.unusedVariables false
set_option linter.unusedSimpArgs false
namespace Go.Proofs.YtfiflailjbmlpaaGreatDoor
open Go.AM
noncomputable def Pd.appA (p : Pd) (e : Eff) : Pd × Int := if p.chk = 0 then p.app e else (p0, 70)
theorem appA_ok {p : Pd} (h : p.ok) (e : Eff) : p.appA e = p.app e := if_pos (Pd.chk_ok h)
theorem appA_no {p : Pd} (h : ¬ p.ok) (e : Eff) : p.appA e = (p0, 70) := if_neg (by rw [Pd.chk_no h]; decide)
theorem PApply_c (p : Pd) (e : Eff) (he : I64 e.pos) : ACalls Tryz.prog 33 [p.av, e.av] [] (fun o H => o = .ret (.tuple [(p.appA e).1.av, iv (p.appA e).2]) ∧ H = []) := by
  refine ACalls.up ?_
  refine ACalls.intro (cs := []) (n := 31) Tryz.func33 rfl rfl rfl (by kernel_rfl) rfl ?_
  generalize hpost : (fun (o : Out) (H : Heap) => o = Out.ret (.tuple [(p.appA e).1.av, iv (p.appA e).2]) ∧ H = []) = post
  have finN : ∀ n H, p.appA e = (p0, n) → Up 0 post (.ret (.tuple [.agg pdN, iv n])) H := fun n H h => .le (.ret (.tuple (.cons pdN_le (.cons (.refl _) .nil)))) (LeH.refl _) (finv rfl (by rw [← hpost, h]; exact ⟨rfl, rfl⟩) H)
  simp only [go_sem,Nat.reduceAdd,Nat.reduceSub,Nat.reduceMul,Nat.reduceEqDiff,Nat.reduceLeDiff,Nat.reduceLT,↓reduceIte,Int.reduceToNat,reduceCtorEq,Int.reduceLT,Int.reduceLE,Int.reduceGT,Int.reduceGE,Int.reduceEq,Int.reduceNe,Int.reduceNeg,Int.reduceAdd,Int.reduceSub,Pd.av,Eff.av,Eff.cells,Eff.cellsD]
  refine rK_use (enters_of Tryz.func25 rfl (by decide)) (ACalls.pure_use (pcheck_c p) rfl rfl) ?_
  by_cases h : p.ok
  rotate_left
  · rw [Pd.chk_no h]
    simp only [go_sem,Nat.reduceAdd,Nat.reduceSub,Nat.reduceMul,Nat.reduceEqDiff,Nat.reduceLeDiff,Nat.reduceLT,↓reduceIte,Int.reduceToNat,reduceCtorEq,Int.reduceLT,Int.reduceLE,Int.reduceGT,Int.reduceGE,Int.reduceEq,Int.reduceNe,Int.reduceNeg,Int.reduceAdd,Int.reduceSub]
    exact finN 70 _ (appA_no h e)
  rw [appA_ok h, Pd.app] at finN
  rw [appA_ok h, Pd.app] at hpost
  rw [Pd.chk_ok h]
  simp only [go_sem,Nat.reduceAdd,Nat.reduceSub,Nat.reduceMul,Nat.reduceEqDiff,Nat.reduceLeDiff,Nat.reduceLT,↓reduceIte,Int.reduceToNat,reduceCtorEq,Int.reduceLT,Int.reduceLE,Int.reduceGT,Int.reduceGE,Int.reduceEq,Int.reduceNe,Int.reduceNeg,Int.reduceAdd,Int.reduceSub]
  refine rK_use (enters_of Tryz.func34 rfl (by decide)) (ACalls.pure_use (Apply_c p.s e he) rfl rfl) ?_
  generalize hR : applyR p.s e = R at *
  rcases Decidable.em (R.2 = 0) with r0 | r0
  rotate_left
  · rw [if_neg r0] at finN
    simp only [go_sem,Nat.reduceAdd,Nat.reduceSub,Nat.reduceMul,Nat.reduceEqDiff,Nat.reduceLeDiff,Nat.reduceLT,↓reduceIte,Int.reduceToNat,reduceCtorEq,Int.reduceLT,Int.reduceLE,Int.reduceGT,Int.reduceGE,Int.reduceEq,Int.reduceNe,Int.reduceNeg,Int.reduceAdd,Int.reduceSub,Sp.av,eq_false r0]
    exact finN R.2 _ rfl
  rw [if_pos r0] at hpost
  simp only [go_sem,Nat.reduceAdd,Nat.reduceSub,Nat.reduceMul,Nat.reduceEqDiff,Nat.reduceLeDiff,Nat.reduceLT,↓reduceIte,Int.reduceToNat,reduceCtorEq,Int.reduceLT,Int.reduceLE,Int.reduceGT,Int.reduceGE,Int.reduceEq,Int.reduceNe,Int.reduceNeg,Int.reduceAdd,Int.reduceSub,Sp.av,eq_true r0]
  refine draw [.rd 0 1, .qu 0 0, .qu 0 0, .mn 0, .qu 1 1, .mn 1, .qu 2 2] (by kernel_rfl) (by kernel_rfl) ?_
  simp only [go_sem,Nat.reduceAdd,Nat.reduceSub,Nat.reduceMul,Nat.reduceEqDiff,Nat.reduceLeDiff,Nat.reduceLT,↓reduceIte,Int.reduceToNat,reduceCtorEq,Int.reduceLT,Int.reduceLE,Int.reduceGT,Int.reduceGE,Int.reduceEq,Int.reduceNe,Int.reduceNeg,Int.reduceAdd,Int.reduceSub]
  refine dM_call (enters_of Tryz.func70 rfl (by decide)) (ACalls.fresh (v' := .sl 4 0 p.l.length none) (cloneP_f p.l false (by have := h.len; omega)) rfl (blt0 (rp_lt0 _)) rfl) ?_
  simp only [go_sem,Nat.reduceAdd,Nat.reduceSub,Nat.reduceMul,Nat.reduceEqDiff,Nat.reduceLeDiff,Nat.reduceLT,↓reduceIte,Int.reduceToNat,reduceCtorEq,Int.reduceLT,Int.reduceLE,Int.reduceGT,Int.reduceGE,Int.reduceEq,Int.reduceNe,Int.reduceNeg,Int.reduceAdd,Int.reduceSub]
  refine up_one 4 3 (p.l.map rp) rfl (rp_lt0 _) (by simp [Out.fzOk, AV.fzOk, fzOkL]) (by simp [Out.fz, AV.fz, fzL, Out.lt, AV.lt, ltL]) ?_
  rw [← hpost]
  have e4 : (p.l.map rp).take p.l.length = p.l.map rp := List.take_of_length_le (by simp)
  simp [Out.fz, AV.fz, fzL, e4, Pd.av]
end Go.Proofs.YtfiflailjbmlpaaGreatDoor
set_option maxRecDepth 100000
set_option linter.unusedVariables false
set_option linter.unusedSimpArgs false
namespace Go.Proofs.YtfiflailjbmlpaaGreatDoor
open Go.AM
theorem pstep_pos {s : Sp} {r : Rg} (hr : r.wf) : I64 (step s r).pos := by
  have h0 : I64 0 := ⟨by decide, by decide⟩
  have key : ∀ {x : Ins}, x.ok → I64 (exec x s r).pos := fun {x} hx => by
    have hF := frame (x := x) (s := s) (r := r) hx hr
    by_cases hd : (exec x s r).data = []
    · rw [hF.pos0 hd]; exact h0
    · obtain ⟨a, ha, hw, hp, hsz⟩ := hF.acc hd
      rw [← hp]
      have hI := fun n => iw_I64 n
      have h7 : I64 r.r7 := hr.reg _ (by simp [Rg.list])
      revert ha
      unfold foot
      repeat' split
      all_goals simp
      all_goals intro h
      all_goals first
        | (subst h; first | exact hI _ | exact h7)
        | (rcases h with h | h <;> subst h <;> first | exact hI _ | exact h7)
  unfold step
  split
  · rename_i h; exact key (dec_ok h)
  · split <;> exact h0
theorem rem_good {p : Pd} (h : p.ok) {a : Int} (h0 : (p.rem a).2 = 0) : (p.rem a).1.ok ∧ (p.rem a).1.clean = p.clean := by
  cases hc : p.cur a with
  | none => rw [rem_none hc] at h0; cases h0
  | some y => exact ⟨(rem_some h hc).2.1.ok, (rem_some h hc).2.1.cl⟩
theorem inst_good {p : Pd} (h : p.ok) {a : Int} (ha : I64 a) (h0 : (p.inst a).2 = 0) : (p.inst a).1.ok ∧ (p.inst a).1.clean = p.clean := by
  obtain ⟨z, U, _⟩ := inst_ok h ha h0
  exact ⟨U.ok, U.cl⟩
def Sp.two (s : Sp) : List AV := [.view false 1 (s.perm.map r1), .view false 1 (s.byt.map rb)]
def rch' (c : Int × Int) : List AV := [iv c.1, iv c.2]
theorem PatchRuns_c (p : Pd) (r : Rg) (hr : r.wf) (l : List (Int × Int)) (hm : l.length ≤ 9223372036854775807) (hw : ∀ c ∈ l, I64 c.2) :
    ACalls Tryz.prog 8 [p.av, r.av, .view false 2 (l.map rch')] [] (fun o H => o = .ret (.bool true) ∧ H = []) := by
  refine ACalls.up ?_
  refine ACalls.intro (cs := [18,20]) (n := 160) Tryz.func8 rfl rfl rfl (by kernel_rfl) rfl ?_
  generalize hpost : (fun (o : Out) (H : Heap) => o = Out.ret (.bool true) ∧ H = []) = post
  have fin : ∀ H, Up 0 post (.ret (.bool true)) H := fun H => finv rfl (by rw [← hpost]; exact ⟨rfl, rfl⟩) H
  simp only [go_sem,Nat.reduceAdd,Nat.reduceSub,Nat.reduceMul,Nat.reduceEqDiff,Nat.reduceLeDiff,Nat.reduceLT,↓reduceIte,Int.reduceToNat,reduceCtorEq,Int.reduceLT,Int.reduceLE,Int.reduceGT,Int.reduceGE,Int.reduceEq,Int.reduceNe,Int.reduceNeg,Int.reduceAdd,Int.reduceSub,Pd.av,Rg.av,Rg.cells]
  refine rK_use (enters_of Tryz.func10 rfl (by decide)) (ACalls.pure_use (sane_c) rfl rfl) ?_
  simp only [go_sem,Nat.reduceAdd,Nat.reduceSub,Nat.reduceMul,Nat.reduceEqDiff,Nat.reduceLeDiff,Nat.reduceLT,↓reduceIte,Int.reduceToNat,reduceCtorEq,Int.reduceLT,Int.reduceLE,Int.reduceGT,Int.reduceGE,Int.reduceEq,Int.reduceNe,Int.reduceNeg,Int.reduceAdd,Int.reduceSub]
  by_cases h : p.ok
  rotate_left
  · refine rK_use (enters_of Tryz.func20 rfl (by decide)) (ACalls.pure_use (Clean_n p h) rfl rfl) ?_
    simp only [go_sem,Nat.reduceAdd,Nat.reduceSub,Nat.reduceMul,Nat.reduceEqDiff,Nat.reduceLeDiff,Nat.reduceLT,↓reduceIte,Int.reduceToNat,reduceCtorEq,Int.reduceLT,Int.reduceLE,Int.reduceGT,Int.reduceGE,Int.reduceEq,Int.reduceNe,Int.reduceNeg,Int.reduceAdd,Int.reduceSub,Sp.av]
    exact fin _
  refine rK_use (enters_of Tryz.func20 rfl (by decide)) (ACalls.pure_use (Clean_c p h) rfl rfl) ?_
  simp only [go_sem,Nat.reduceAdd,Nat.reduceSub,Nat.reduceMul,Nat.reduceEqDiff,Nat.reduceLeDiff,Nat.reduceLT,↓reduceIte,Int.reduceToNat,reduceCtorEq,Int.reduceLT,Int.reduceLE,Int.reduceGT,Int.reduceGE,Int.reduceEq,Int.reduceNe,Int.reduceNeg,Int.reduceAdd,Int.reduceSub,Sp.av,List.length_map]
  rcases Decidable.em ((80 : Int) < l.length) with h80 | h80
  · simp only [go_sem,Nat.reduceAdd,Nat.reduceSub,Nat.reduceMul,Nat.reduceEqDiff,Nat.reduceLeDiff,Nat.reduceLT,↓reduceIte,Int.reduceToNat,reduceCtorEq,Int.reduceLT,Int.reduceLE,Int.reduceGT,Int.reduceGE,Int.reduceEq,Int.reduceNe,Int.reduceNeg,Int.reduceAdd,Int.reduceSub,eq_true h80]
    exact fin _
  simp only [go_sem,Nat.reduceAdd,Nat.reduceSub,Nat.reduceMul,Nat.reduceEqDiff,Nat.reduceLeDiff,Nat.reduceLT,↓reduceIte,Int.reduceToNat,reduceCtorEq,Int.reduceLT,Int.reduceLE,Int.reduceGT,Int.reduceGE,Int.reduceEq,Int.reduceNe,Int.reduceNeg,Int.reduceAdd,Int.reduceSub,eq_false h80]
  refine loop_fam (fun q : Nat × Pd × Rg => ((((((Ch.nil.put 2 (.view false 2 (l.map rch'))).put 3 (.ptr 0 0 0)).put 4 (.ptr 1 0 0)).put 8 (.ptr 2 0 0)).put 10 (.ptr 3 0 0)).put 11 (iv q.1)))
    (fun q => [.rows 3 [q.2.1.cells], .rows 9 [q.2.2.cells], .rows 2 [q.2.1.clean.two], .rows 9 [q.2.2.cells]])
    (fun q => l.length - q.1) (fun q => q.1 ≤ l.length ∧ q.2.1.ok ∧ q.2.2.wf) (0, p, r) (by kernel_rfl) ⟨Nat.zero_le _, h, hr⟩ (Wk.slots' rfl (by simp [wkS, Ch.get])) ?_
  rintro ⟨i, q, g⟩ ⟨hi, hq, hg⟩ K hK
  simp only at hi hq hg
  simp only [go_sem,Nat.reduceAdd,Nat.reduceSub,Nat.reduceMul,Nat.reduceEqDiff,Nat.reduceLeDiff,Nat.reduceLT,↓reduceIte,Int.reduceToNat,reduceCtorEq,Int.reduceLT,Int.reduceLE,Int.reduceGT,Int.reduceGE,Int.reduceEq,Int.reduceNe,Int.reduceNeg,Int.reduceAdd,Int.reduceSub,Pd.cells,Rg.cells,Sp.two,List.length_map]
  refine condD_dec (fun hlt => ?_) (fun hlt => ?_)
  rotate_left
  · simp only [go_sem,Nat.reduceAdd,Nat.reduceSub,Nat.reduceMul,Nat.reduceEqDiff,Nat.reduceLeDiff,Nat.reduceLT,↓reduceIte,Int.reduceToNat,reduceCtorEq,Int.reduceLT,Int.reduceLE,Int.reduceGT,Int.reduceGE,Int.reduceEq,Int.reduceNe,Int.reduceNeg,Int.reduceAdd,Int.reduceSub]
    exact fin _
  obtain ⟨c, hc⟩ := at_lt (l := l) (i := i) (by omega)
  have hcw := hw c (List.mem_of_getElem? hc)
  have e1 : iw .i64 ((i : Int) + 1) = ((i + 1 : Nat) : Int) := by rw [iw64] <;> omega
  have g1 : (0 : Int) ≤ i ∧ (i : Int) < l.length := ⟨by omega, by omega⟩
  simp only [go_sem,Nat.reduceAdd,Nat.reduceSub,Nat.reduceMul,Nat.reduceEqDiff,Nat.reduceLeDiff,Nat.reduceLT,↓reduceIte,Int.reduceToNat,reduceCtorEq,Int.reduceLT,Int.reduceLE,Int.reduceGT,Int.reduceGE,Int.reduceEq,Int.reduceNe,Int.reduceNeg,Int.reduceAdd,Int.reduceSub]
  refine seq_cut (fun u : Pd × Int => ((((((((Ch.nil.put 2 (.view false 2 (l.map rch'))).put 3 (.ptr 0 0 0)).put 4 (.ptr 1 0 0)).put 8 (.ptr 2 0 0)).put 10 (.ptr 3 0 0)).put 11 (iv i)).put 12 (.ptr 4 0 0)).put 13 (iv u.2)))
    (fun u => [.rows 3 [q.cells], .rows 9 [g.cells], .rows 2 [q.clean.two], .rows 9 [g.cells], .rows 3 [u.1.cells]])
    (fun u => u.2 = 0 → u.1.ok ∧ u.1.clean = q.clean) (by kernel_rfl) ?_ ?_
  · intro K1 hK1
    simp only [go_sem,Nat.reduceAdd,Nat.reduceSub,Nat.reduceMul,Nat.reduceEqDiff,Nat.reduceLeDiff,Nat.reduceLT,↓reduceIte,Int.reduceToNat,reduceCtorEq,Int.reduceLT,Int.reduceLE,Int.reduceGT,Int.reduceGE,Int.reduceEq,Int.reduceNe,Int.reduceNeg,Int.reduceAdd,Int.reduceSub,hc,g1,List.getElem?_map,List.length_map,rch']
    rcases Decidable.em (c.1 = 0) with k0 | k0
    · simp only [go_sem,Nat.reduceAdd,Nat.reduceSub,Nat.reduceMul,Nat.reduceEqDiff,Nat.reduceLeDiff,Nat.reduceLT,↓reduceIte,Int.reduceToNat,reduceCtorEq,Int.reduceLT,Int.reduceLE,Int.reduceGT,Int.reduceGE,Int.reduceEq,Int.reduceNe,Int.reduceNeg,Int.reduceAdd,Int.reduceSub,eq_true k0]
      refine draw [.qu 0 0, .qu 0 0, .qu 0 0, .qu 0 0, .qu 0 0, .qu 0 0, .mn 0, .qu 1 1, .qu 1 1, .qu 1 2, .mn 1, .qu 2 2] (by kernel_rfl) (by kernel_rfl) ?_
      simp only [go_sem,Nat.reduceAdd,Nat.reduceSub,Nat.reduceMul,Nat.reduceEqDiff,Nat.reduceLeDiff,Nat.reduceLT,↓reduceIte,Int.reduceToNat,reduceCtorEq,Int.reduceLT,Int.reduceLE,Int.reduceGT,Int.reduceGE,Int.reduceEq,Int.reduceNe,Int.reduceNeg,Int.reduceAdd,Int.reduceSub,hc,g1,List.getElem?_map,List.length_map,rch']
      refine dM_call (enters_of Tryz.func18 rfl (by decide)) (ACalls.pure_use (Install_c q c.2 hcw) rfl rfl) ?_
      rw [instA_ok hq]
      simp only [go_sem,Nat.reduceAdd,Nat.reduceSub,Nat.reduceMul,Nat.reduceEqDiff,Nat.reduceLeDiff,Nat.reduceLT,↓reduceIte,Int.reduceToNat,reduceCtorEq,Int.reduceLT,Int.reduceLE,Int.reduceGT,Int.reduceGE,Int.reduceEq,Int.reduceNe,Int.reduceNeg,Int.reduceAdd,Int.reduceSub,Pd.av]
      exact hK1 (q.inst c.2) _ _ (inst_good hq hcw) (Wk.slots' rfl (by simp [wkS, Ch.get]))
    rcases Decidable.em (c.1 = 1) with k1 | k1
    · simp only [go_sem,Nat.reduceAdd,Nat.reduceSub,Nat.reduceMul,Nat.reduceEqDiff,Nat.reduceLeDiff,Nat.reduceLT,↓reduceIte,Int.reduceToNat,reduceCtorEq,Int.reduceLT,Int.reduceLE,Int.reduceGT,Int.reduceGE,Int.reduceEq,Int.reduceNe,Int.reduceNeg,Int.reduceAdd,Int.reduceSub,eq_false k0,eq_true k1]
      refine draw [.qu 0 0, .qu 0 0, .qu 0 0, .qu 0 0, .qu 0 0, .qu 0 0, .mn 0, .qu 1 1, .qu 1 1, .qu 1 2, .mn 1, .qu 2 2] (by kernel_rfl) (by kernel_rfl) ?_
      simp only [go_sem,Nat.reduceAdd,Nat.reduceSub,Nat.reduceMul,Nat.reduceEqDiff,Nat.reduceLeDiff,Nat.reduceLT,↓reduceIte,Int.reduceToNat,reduceCtorEq,Int.reduceLT,Int.reduceLE,Int.reduceGT,Int.reduceGE,Int.reduceEq,Int.reduceNe,Int.reduceNeg,Int.reduceAdd,Int.reduceSub,hc,g1,List.getElem?_map,List.length_map,rch']
      refine dM_call (enters_of Tryz.func19 rfl (by decide)) (ACalls.pure_use (Remove_c q c.2) rfl rfl) ?_
      rw [remA_ok hq]
      simp only [go_sem,Nat.reduceAdd,Nat.reduceSub,Nat.reduceMul,Nat.reduceEqDiff,Nat.reduceLeDiff,Nat.reduceLT,↓reduceIte,Int.reduceToNat,reduceCtorEq,Int.reduceLT,Int.reduceLE,Int.reduceGT,Int.reduceGE,Int.reduceEq,Int.reduceNe,Int.reduceNeg,Int.reduceAdd,Int.reduceSub,Pd.av]
      exact hK1 (q.rem c.2) _ _ (rem_good hq) (Wk.slots' rfl (by simp [wkS, Ch.get]))
    rcases Decidable.em (c.1 = 2) with k2 | k2
    · simp only [go_sem,Nat.reduceAdd,Nat.reduceSub,Nat.reduceMul,Nat.reduceEqDiff,Nat.reduceLeDiff,Nat.reduceLT,↓reduceIte,Int.reduceToNat,reduceCtorEq,Int.reduceLT,Int.reduceLE,Int.reduceGT,Int.reduceGE,Int.reduceEq,Int.reduceNe,Int.reduceNeg,Int.reduceAdd,Int.reduceSub,eq_false k0,eq_false k1,eq_true k2,hc,g1,List.getElem?_map,List.length_map,rch']
      refine rK_use (enters_of Tryz.func18 rfl (by decide)) (ACalls.pure_use (Install_c q g.pc hg.pc) rfl rfl) ?_
      rw [instA_ok hq]
      simp only [go_sem,Nat.reduceAdd,Nat.reduceSub,Nat.reduceMul,Nat.reduceEqDiff,Nat.reduceLeDiff,Nat.reduceLT,↓reduceIte,Int.reduceToNat,reduceCtorEq,Int.reduceLT,Int.reduceLE,Int.reduceGT,Int.reduceGE,Int.reduceEq,Int.reduceNe,Int.reduceNeg,Int.reduceAdd,Int.reduceSub,Pd.av]
      exact hK1 (q.inst g.pc) _ _ (inst_good hq hg.pc) (Wk.slots' rfl (by simp [wkS, Ch.get]))
    · simp only [go_sem,Nat.reduceAdd,Nat.reduceSub,Nat.reduceMul,Nat.reduceEqDiff,Nat.reduceLeDiff,Nat.reduceLT,↓reduceIte,Int.reduceToNat,reduceCtorEq,Int.reduceLT,Int.reduceLE,Int.reduceGT,Int.reduceGE,Int.reduceEq,Int.reduceNe,Int.reduceNeg,Int.reduceAdd,Int.reduceSub,eq_false k0,eq_false k1,eq_false k2]
      exact hK1 (q, 1) _ _ (fun h => absurd (show (1 : Int) = 0 from h) (by decide)) (Wk.slots' rfl (by simp [wkS, Ch.get]))
  rintro ⟨n, f⟩ hn
  simp only at hn
  simp only [go_sem,Nat.reduceAdd,Nat.reduceSub,Nat.reduceMul,Nat.reduceEqDiff,Nat.reduceLeDiff,Nat.reduceLT,↓reduceIte,Int.reduceToNat,reduceCtorEq,Int.reduceLT,Int.reduceLE,Int.reduceGT,Int.reduceGE,Int.reduceEq,Int.reduceNe,Int.reduceNeg,Int.reduceAdd,Int.reduceSub,Pd.cells,Rg.cells,Sp.two]
  refine seq_cut (fun u : Pd => ((((((Ch.nil.put 2 (.view false 2 (l.map rch'))).put 3 (.ptr 0 0 0)).put 4 (.ptr 1 0 0)).put 8 (.ptr 2 0 0)).put 10 (.ptr 3 0 0)).put 11 (iv i)))
    (fun u => [.rows 3 [u.cells], .rows 9 [g.cells], .rows 2 [q.clean.two], .rows 9 [g.cells]])
    (fun u => u.ok ∧ u.clean = q.clean) (by kernel_rfl) ?_ ?_
  · intro K2 hK2
    simp only [go_sem,Nat.reduceAdd,Nat.reduceSub,Nat.reduceMul,Nat.reduceEqDiff,Nat.reduceLeDiff,Nat.reduceLT,↓reduceIte,Int.reduceToNat,reduceCtorEq,Int.reduceLT,Int.reduceLE,Int.reduceGT,Int.reduceGE,Int.reduceEq,Int.reduceNe,Int.reduceNeg,Int.reduceAdd,Int.reduceSub]
    refine condD_dec (fun hf => ?_) (fun hf => ?_)
    · simp only [go_sem,Nat.reduceAdd,Nat.reduceSub,Nat.reduceMul,Nat.reduceEqDiff,Nat.reduceLeDiff,Nat.reduceLT,↓reduceIte,Int.reduceToNat,reduceCtorEq,Int.reduceLT,Int.reduceLE,Int.reduceGT,Int.reduceGE,Int.reduceEq,Int.reduceNe,Int.reduceNeg,Int.reduceAdd,Int.reduceSub]
      exact hK2 n _ _ (hn hf) (Wk.drop (m := 4) (by simp [wkS, Ch.get]) (Nat.zero_le _) (by simp) (by simp [chLt, AV.lt]) rfl (by simp only [List.forall_mem_cons]; exact ⟨by simp [Blk.lt, ltL, AV.lt, Pd.cells], by simp [Blk.lt, ltL, AV.lt, Rg.cells], by simp [Blk.lt, ltL, AV.lt, Sp.two], by simp [Blk.lt, ltL, AV.lt, Rg.cells], by simp⟩))
    · simp only [go_sem,Nat.reduceAdd,Nat.reduceSub,Nat.reduceMul,Nat.reduceEqDiff,Nat.reduceLeDiff,Nat.reduceLT,↓reduceIte,Int.reduceToNat,reduceCtorEq,Int.reduceLT,Int.reduceLE,Int.reduceGT,Int.reduceGE,Int.reduceEq,Int.reduceNe,Int.reduceNeg,Int.reduceAdd,Int.reduceSub]
      exact hK2 q _ _ ⟨hq, rfl⟩ (Wk.drop (m := 4) (by simp [wkS, Ch.get]) (Nat.zero_le _) (by simp) (by simp [chLt, AV.lt]) rfl (by simp only [List.forall_mem_cons]; exact ⟨by simp [Blk.lt, ltL, AV.lt, Pd.cells], by simp [Blk.lt, ltL, AV.lt, Rg.cells], by simp [Blk.lt, ltL, AV.lt, Sp.two], by simp [Blk.lt, ltL, AV.lt, Rg.cells], by simp⟩))
  rintro u ⟨hu, hcl⟩
  have hsw := iw_i64 (100000 * (i : Int))
  simp only [go_sem,Nat.reduceAdd,Nat.reduceSub,Nat.reduceMul,Nat.reduceEqDiff,Nat.reduceLeDiff,Nat.reduceLT,↓reduceIte,Int.reduceToNat,reduceCtorEq,Int.reduceLT,Int.reduceLE,Int.reduceGT,Int.reduceGE,Int.reduceEq,Int.reduceNe,Int.reduceNeg,Int.reduceAdd,Int.reduceSub,Pd.cells,Rg.cells,Sp.two]
  refine rK_use (enters_of Tryz.func11 rfl (by decide)) (ACalls.pure_use (PStep_c u hu g hg (iw .i64 (100000 * (i : Int))) hsw) rfl rfl) ?_
  have hT := hu.stepT hg (iw .i64 (100000 * (i : Int)))
  have hpos := pstep_pos (s := u.clean) hg
  have hfit := step_fits (s := u.clean) hg
  have hwf := step_wf (s := u.clean) hg
  rw [← hT] at hpos hfit hwf
  have hSt := Step_c u.clean hu.cok g hg
  rw [← hT, hcl] at hSt
  generalize u.stepE g (iw .i64 (100000 * (i : Int))) = E at *
  simp only [go_sem,Nat.reduceAdd,Nat.reduceSub,Nat.reduceMul,Nat.reduceEqDiff,Nat.reduceLeDiff,Nat.reduceLT,↓reduceIte,Int.reduceToNat,reduceCtorEq,Int.reduceLT,Int.reduceLE,Int.reduceGT,Int.reduceGE,Int.reduceEq,Int.reduceNe,Int.reduceNeg,Int.reduceAdd,Int.reduceSub,Eff.av,Eff.cells,Eff.cellsD]
  refine rK_use (enters_of Tryz.func35 rfl (by decide)) (ACalls.pure_use hSt rfl rfl) ?_
  simp only [go_sem,Nat.reduceAdd,Nat.reduceSub,Nat.reduceMul,Nat.reduceEqDiff,Nat.reduceLeDiff,Nat.reduceLT,↓reduceIte,Int.reduceToNat,reduceCtorEq,Int.reduceLT,Int.reduceLE,Int.reduceGT,Int.reduceGE,Int.reduceEq,Int.reduceNe,Int.reduceNeg,Int.reduceAdd,Int.reduceSub,Eff.av,Eff.cells,Eff.cellsD]
  refine rK_use (enters_of Tryz.func36 rfl (by decide)) (ACalls.pure_use (Same_c E.1 E.1) rfl rfl) ?_
  rw [sameE_self]
  simp only [go_sem,Nat.reduceAdd,Nat.reduceSub,Nat.reduceMul,Nat.reduceEqDiff,Nat.reduceLeDiff,Nat.reduceLT,↓reduceIte,Int.reduceToNat,reduceCtorEq,Int.reduceLT,Int.reduceLE,Int.reduceGT,Int.reduceGE,Int.reduceEq,Int.reduceNe,Int.reduceNeg,Int.reduceAdd,Int.reduceSub]
  refine condD_dec (fun ht => ?_) (fun ht => ?_)
  · simp only [go_sem,Nat.reduceAdd,Nat.reduceSub,Nat.reduceMul,Nat.reduceEqDiff,Nat.reduceLeDiff,Nat.reduceLT,↓reduceIte,Int.reduceToNat,reduceCtorEq,Int.reduceLT,Int.reduceLE,Int.reduceGT,Int.reduceGE,Int.reduceEq,Int.reduceNe,Int.reduceNeg,Int.reduceAdd,Int.reduceSub]
    exact fin _
  simp only [go_sem,Nat.reduceAdd,Nat.reduceSub,Nat.reduceMul,Nat.reduceEqDiff,Nat.reduceLeDiff,Nat.reduceLT,↓reduceIte,Int.reduceToNat,reduceCtorEq,Int.reduceLT,Int.reduceLE,Int.reduceGT,Int.reduceGE,Int.reduceEq,Int.reduceNe,Int.reduceNeg,Int.reduceAdd,Int.reduceSub]
  refine rK_use (enters_of Tryz.func33 rfl (by decide)) (ACalls.pure_use (PApply_c u E.1 hpos) rfl rfl) ?_
  rw [appA_ok hu]
  obtain ⟨w1, w2⟩ := app_law hu hpos
  have hAp := Apply_c u.clean E.1 hpos
  have hA0 : (applyR u.clean E.1).2 = 0 := by rw [applyR, if_pos hu.cok, if_pos hfit]
  rw [hA0] at w1 hAp
  obtain ⟨v1, v2⟩ := w2 w1
  rw [← v2, hcl] at hAp
  generalize u.app E.1 = U at *
  simp only [go_sem,Nat.reduceAdd,Nat.reduceSub,Nat.reduceMul,Nat.reduceEqDiff,Nat.reduceLeDiff,Nat.reduceLT,↓reduceIte,Int.reduceToNat,reduceCtorEq,Int.reduceLT,Int.reduceLE,Int.reduceGT,Int.reduceGE,Int.reduceEq,Int.reduceNe,Int.reduceNeg,Int.reduceAdd,Int.reduceSub,Pd.av,w1]
  refine rK_use (enters_of Tryz.func34 rfl (by decide)) (ACalls.pure_use hAp rfl rfl) ?_
  simp only [go_sem,Nat.reduceAdd,Nat.reduceSub,Nat.reduceMul,Nat.reduceEqDiff,Nat.reduceLeDiff,Nat.reduceLT,↓reduceIte,Int.reduceToNat,reduceCtorEq,Int.reduceLT,Int.reduceLE,Int.reduceGT,Int.reduceGE,Int.reduceEq,Int.reduceNe,Int.reduceNeg,Int.reduceAdd,Int.reduceSub,Sp.av]
  refine rK_use (enters_of Tryz.func20 rfl (by decide)) (ACalls.pure_use (Clean_c U.1 v1) rfl rfl) ?_
  have hcf := v1.cok
  have hc1 : U.1.clean.perm.length ≤ 9223372036854775807 := by have := hcf.p32; omega
  have hc2 : U.1.clean.byt.length ≤ 9223372036854775807 := by have := byt_len hcf; omega
  simp only [go_sem,Nat.reduceAdd,Nat.reduceSub,Nat.reduceMul,Nat.reduceEqDiff,Nat.reduceLeDiff,Nat.reduceLT,↓reduceIte,Int.reduceToNat,reduceCtorEq,Int.reduceLT,Int.reduceLE,Int.reduceGT,Int.reduceGE,Int.reduceEq,Int.reduceNe,Int.reduceNeg,Int.reduceAdd,Int.reduceSub,Sp.av]
  refine rK_use (enters_of Tryz.func32 rfl (by decide)) (ACalls.pure_use (msame_c U.1.clean U.1.clean hc1 hc2) rfl rfl) ?_
  rw [sameS_self]
  simp only [go_sem,Nat.reduceAdd,Nat.reduceSub,Nat.reduceMul,Nat.reduceEqDiff,Nat.reduceLeDiff,Nat.reduceLT,↓reduceIte,Int.reduceToNat,reduceCtorEq,Int.reduceLT,Int.reduceLE,Int.reduceGT,Int.reduceGE,Int.reduceEq,Int.reduceNe,Int.reduceNeg,Int.reduceAdd,Int.reduceSub,e1]
  exact hK (i + 1, U.1, E.1.rg) _ _ ⟨by simp only; omega, v1, hwf⟩ (by simp only; omega) (Wk.drop (m := 4) (by simp [wkS, Ch.get]) (Nat.zero_le _) (by simp) (by simp [chLt, AV.lt]) rfl (by simp only [List.forall_mem_cons]; exact ⟨by simp [Blk.lt, ltL, AV.lt, Pd.cells], by simp [Blk.lt, ltL, AV.lt, Rg.cells], by simp [Blk.lt, ltL, AV.lt, Sp.two], by simp [Blk.lt, ltL, AV.lt, Rg.cells], by simp⟩))
end Go.Proofs.YtfiflailjbmlpaaGreatDoor
set_option maxRecDepth 100000
set_option linter.unusedVariables false
set_option linter.unusedSimpArgs false
namespace Go.Proofs.YtfiflailjbmlpaaGreatDoor
open Go.AM
open Go.ChangeShapes Go.WideShapes Go.ChangeAt Go.RowKit
def kdOf : DataW Unit → List UInt8 × Int
  | .agg [.lit (.string s), .lit (.int _ n)] => (s, n)
  | _ => ([], 0)
def kd : List (List UInt8 × Int) := match (Rows.laid_tapline_insn_kinds : DataW Unit) with
  | .agg ds => ds.map kdOf
  | _ => []
def kdD (x : List UInt8 × Int) : DataW Unit := .agg [.lit (.string x.1), .lit (.int .i64 x.2)]
def kdV (x : List UInt8 × Int) : List Value := [.string ⟨x.1.toArray⟩, .int .i64 x.2]
theorem kd_laid : (Rows.laid_tapline_insn_kinds : DataW Unit) = .agg (kd.map kdD) := rfl
theorem kd_gtab : gtab = [(0, kd.flatMap kdV)] := rfl
theorem kd_len : kd.length = 35 := by kernel_rfl
theorem chunk {α : Type} : ∀ (L : List (List α)) (cs : List α) (m : Nat), (∀ l ∈ L, l.length = m) → cs.length = L.length * m → (∀ (i : Nat) l, L[i]? = some l → (cs.drop (i * m)).take m = l) → cs = L.flatten
  | [], cs, m, _, h, _ => by simpa using h
  | l :: L, cs, m, hl, hn, h => by
    have h0 := h 0 l rfl
    simp at h0
    have ih := chunk L (cs.drop m) m (fun x hx => hl x (List.mem_cons_of_mem _ hx)) (by simp [hn, Nat.add_mul]) (fun i x hx => by
      have := h (i + 1) x (by simpa using hx)
      rw [List.drop_drop, show m + i * m = (i + 1) * m by rw [Nat.add_mul]; omega]
      exact this)
    rw [List.flatten_cons, ← ih, ← h0, List.take_append_drop]
theorem two {α : Type} : ∀ {l : List α}, l.length = 2 → ∃ a b, l = [a, b]
  | [a, b], _ => ⟨a, b, rfl⟩
theorem glok {W : World} (h : laidMetH Tryz.prog [("tapline/insn.kinds", Rows.laid_tapline_insn_kinds)] W) : GlOk (snapAll W) := by
  rw [MakeChecks.laidMetH_plain _ _ _ (by kernel_rfl)] at h
  obtain ⟨ps, ⟨g, t, cs, fuel, p, q, hg, ht, hv, hd, _, _⟩, _, _⟩ := h
  obtain rfl := Option.some.inj ((show Tryz.prog.globalNamed "tapline/insn.kinds" = some 0 by kernel_rfl).symm.trans hg)
  obtain rfl := Option.some.inj ((show (Tryz.prog.globals[0]?).map (·.type) = some 174 by kernel_rfl).symm.trans ht)
  obtain ⟨xs, m, _, ex, hn, hl, hel⟩ := DataW.trod_array Tryz.underlying174 hd
  have c2 : Tryz.prog.cellsOf 156 = 2 := by kernel_rfl
  have c70 : Tryz.prog.cellsOf 174 = 70 := by kernel_rfl
  have e3 : xs.map (·.1) = kd.map kdD := by
    have := (Prod.mk.inj ex).1
    rw [kd_laid] at this
    exact (DataW.agg.inj this).symm
  have hkl := kd_len
  have hcs : cs.toList = (kd.map kdV).flatten := by
    refine chunk _ _ 2 (fun l hl => by obtain ⟨x, _, rfl⟩ := List.mem_map.1 hl; rfl) (by rw [hn, c70, List.length_map, hkl]) fun i l hi => ?_
    rw [List.getElem?_map, Option.map_eq_some_iff] at hi
    obtain ⟨x, hx, rfl⟩ := hi
    have hil := (List.getElem?_eq_some_iff.1 hx).1
    have hE := hel i (by omega)
    rw [c2, List.getElem?_eq_getElem (by omega)] at hE
    have hx1 : xs[i].1 = kdD x := by
      have := congrArg (fun l => l[i]?) e3
      simp only [List.getElem?_map, hx, List.getElem?_eq_getElem (show i < xs.length by omega), Option.map_some, Option.some.injEq] at this
      exact this
    obtain ⟨ys, n, _, ey, hyl, hys, hf⟩ := DataW.trod_struct Tryz.underlying156 hE
    have f0 := hf 0 _ rfl
    have f1 := hf 1 _ rfl
    have h2 : ys.length = 2 := hys
    rw [List.getElem?_eq_getElem (by omega)] at f0 f1
    obtain ⟨s, s1, s2, _⟩ := DataW.trod_string Tryz.underlying9 f0
    obtain ⟨z, z1, z2, _⟩ := DataW.trod_int Tryz.underlying3 f1
    have c9 : Tryz.prog.cellsOf 9 = 1 := by kernel_rfl
    have c3 : Tryz.prog.cellsOf 3 = 1 := by kernel_rfl
    have e4 : ys.map (·.1) = [.lit (.string x.1), .lit (.int .i64 x.2)] := by
      rw [ey] at hx1
      exact DataW.agg.inj hx1
    obtain ⟨y0, y1, rfl⟩ := two h2
    simp only [List.map_cons, List.map_nil, List.cons.injEq, and_true, List.getElem_cons_zero, List.getElem_cons_succ] at e4
    have s2' : y0 = _ := s2
    have z2' : y1 = _ := z2
    rw [s2', z2'] at e4
    simp only [DataW.lit.injEq, Lit.string.injEq, Lit.int.injEq, true_and] at e4
    obtain ⟨es, ez⟩ := e4
    have hs : s = ⟨x.1.toArray⟩ := by
      rw [← es]
    rw [c2] at hyl
    generalize (cs.toList.drop (i * 2)).take 2 = B at *
    obtain ⟨u, v, rfl⟩ := two hyl
    have s1' : List.take (Tryz.prog.cellsOf 9) [u, v] = [.string s] := s1
    have z1' : List.take (Tryz.prog.cellsOf 3) [v] = [.int .i64 z] := z1
    rw [c9] at s1'
    rw [c3] at z1'
    simp only [List.take_succ_cons, List.take_zero, List.cons.injEq, and_true] at s1' z1'
    rw [s1', z1', hs, ez]
    rfl
  have hfl : kd.flatMap kdV = cs.toList := by rw [hcs, List.flatMap]
  intro y hy k v hk
  rw [kd_gtab, List.mem_singleton] at hy
  subst hy
  have hk' : cs.toList[k]? = some v := by rw [← hfl]; exact hk
  have hc := World.var?_cell hg hv k
  rw [show cs[k]? = some v by simpa using hk'] at hc
  unfold scell snapAll
  unfold World.cell? at hc
  split at hc
  · rename_i e
    rw [e]
    exact hc
  · cases hc
theorem wf_i64 {n : Int} (h : (Lit.int .i64 n).wf = true) : I64 n := by
  simp only [Lit.wf, Bool.and_eq_true, decide_eq_true_eq] at h
  have h1 : IntKind.i64.min = -9223372036854775808 := by decide
  have h2 : IntKind.i64.max = 9223372036854775807 := by decide
  rw [h1, h2] at h
  exact h
theorem wf_u8 {n : Int} (h : (Lit.int .u8 n).wf = true) : ∃ b : UInt8, n = (b.toNat : Int) := by
  simp only [Lit.wf, Bool.and_eq_true, decide_eq_true_eq] at h
  have h1 : IntKind.u8.min = 0 := by decide
  have h2 : IntKind.u8.max = 255 := by decide
  rw [h1, h2] at h
  refine ⟨UInt8.ofNat n.toNat, ?_⟩
  rw [UInt8.toNat_ofNat']
  omega
theorem sh_int {xs : List AV} (h : Sh Tryz.prog 3 xs) : ∃ n, wkL xs = r1 n ∧ I64 n := by
  obtain ⟨n, rfl, hw⟩ := h.int_inv Tryz.underlying3
  exact ⟨n, rfl, wf_i64 hw⟩
theorem sh_i64 {xs : List AV} (h : Sh Tryz.prog 2 xs) : ∃ n, wkL xs = r1 n ∧ I64 n := by
  obtain ⟨n, rfl, hw⟩ := h.int_inv Tryz.underlying2
  exact ⟨n, rfl, wf_i64 hw⟩
theorem sh_u8 {xs : List AV} (h : Sh Tryz.prog 5 xs) : ∃ b : UInt8, wkL xs = rb b := by
  obtain ⟨n, rfl, hw⟩ := h.int_inv Tryz.underlying5
  obtain ⟨b, rfl⟩ := wf_u8 hw
  exact ⟨b, rfl⟩
theorem cells_int : Tryz.prog.cellsOf 3 = 1 := by kernel_rfl
theorem cells_u8 : Tryz.prog.cellsOf 5 = 1 := by kernel_rfl
theorem wkL_app : ∀ (a b : List AV), wkL (a ++ b) = wkL a ++ wkL b
  | [], b => rfl
  | x :: a, b => by simp [wkL, wkL_app a b]
theorem sh_space {xs : List AV} (h : Sh Tryz.prog 25 xs) : ∃ s : Sp, wkL xs = [.view false 1 (s.perm.map r1), .view false 1 (s.byt.map rb)] := by
  obtain ⟨xss, rfl, hn, hp⟩ := h.struct_inv Tryz.underlying25
  obtain ⟨a, b, rfl⟩ := two hn
  obtain ⟨f1, r1', h1, _, hr1⟩ := (hp 0 _ a rfl rfl).slice_inv Tryz.underlying22
  obtain ⟨f2, r2', h2, _, hr2⟩ := (hp 1 _ b rfl rfl).slice_inv Tryz.underlying23
  obtain ⟨l1, hl1⟩ := Sh.rows (f := r1) (fun row hrow => (sh_int hrow).imp fun n hn => hn.1) hr1
  obtain ⟨l2, hl2⟩ := Sh.rows (f := rb) (fun row hrow => sh_u8 hrow) hr2
  subst h1 h2
  refine ⟨⟨l1, l2⟩, ?_⟩
  simp [AV.wk, wkL_app, wkL, hl1, hl2, cells_int, cells_u8]
theorem flat3 {xss : List (List AV)} (h : xss.length = 3) : ∃ a b c, xss = [a, b, c] := by
  match xss, h with
  | [a, b, c], _ => exact ⟨a, b, c, rfl⟩
theorem flat8 {xss : List (List AV)} (h : xss.length = 8) : ∃ a b c d e f g i, xss = [a, b, c, d, e, f, g, i] := by
  match xss, h with
  | [a, b, c, d, e, f, g, i], _ => exact ⟨a, b, c, d, e, f, g, i, rfl⟩
theorem sh_regs {xs : List AV} (h : Sh Tryz.prog 31 xs) : ∃ r : Rg, wkL xs = r.cells ∧ r.wf := by
  obtain ⟨xss, rfl, hn, hp⟩ := h.struct_inv Tryz.underlying31
  obtain ⟨a, b, rfl⟩ := two hn
  obtain ⟨yss, rfl, hm, hq⟩ := (hp 0 _ a rfl rfl).array_inv Tryz.underlying29
  obtain ⟨a0, a1, a2, a3, a4, a5, a6, a7, rfl⟩ := flat8 hm
  obtain ⟨n0, h0, w0⟩ := sh_i64 (hq a0 (by simp))
  obtain ⟨n1, h1, w1⟩ := sh_i64 (hq a1 (by simp))
  obtain ⟨n2, h2, w2⟩ := sh_i64 (hq a2 (by simp))
  obtain ⟨n3, h3, w3⟩ := sh_i64 (hq a3 (by simp))
  obtain ⟨n4, h4, w4⟩ := sh_i64 (hq a4 (by simp))
  obtain ⟨n5, h5, w5⟩ := sh_i64 (hq a5 (by simp))
  obtain ⟨n6, h6, w6⟩ := sh_i64 (hq a6 (by simp))
  obtain ⟨n7, h7, w7⟩ := sh_i64 (hq a7 (by simp))
  obtain ⟨n8, h8, w8⟩ := sh_i64 (hp 1 _ b rfl rfl)
  refine ⟨⟨n0, n1, n2, n3, n4, n5, n6, n7, n8⟩, by simp [wkL_app, h0, h1, h2, h3, h4, h5, h6, h7, h8, Rg.cells], ⟨?_, w8⟩⟩
  intro x hx
  simp only [Rg.list, List.mem_cons, List.not_mem_nil, or_false] at hx
  rcases hx with rfl | rfl | rfl | rfl | rfl | rfl | rfl | rfl <;> assumption
theorem read_agg {H : Type} {enc : TypeId × Value → H} {P : Program} {w : World} {t : TypeId} {fs : Array Field} {v : Value} {d : DataW H} {p : List MemPlace} {base : Nat} (m : Nat) (ht : P.underlying t = some (.struct fs)) (hp : plainB P m t = true)
    (hv : Value.okWide P w .any base t v) (h : DataW.Trod enc P w 0 (fun _ => true) true t v d p) : ∃ xs, VR (snapAll w) noEnv (.agg (wkL xs)) v ∧ Sh P t xs := by
  unfold Value.okWide at hv
  rw [ht] at hv
  obtain ⟨cs, rfl, _⟩ := hv
  obtain ⟨n, hn⟩ := h
  obtain ⟨xs, h1, h2⟩ := read_trod m t hp n _ _ hn
  have hlen : xs.length = cs.size := by rw [h1.1]; simp [Value.cells]
  refine ⟨xs, ?_, h2⟩
  have := VR.wk (VR.agg (sn := snapAll w) noEnv xs cs hlen.symm fun k x y hx hy => (h1.2 k x y hx (by simpa [Value.cells] using hy)).1)
  simpa [AV.wk] using this
section
variable {H : Type} {enc : TypeId × Value → H} {w : World} {v : Value} {d : DataW H} {p : List MemPlace} {base : Nat}
theorem read_regs (hv : Value.okWide Tryz.prog w .any base 31 v) (h : DataW.Trod enc Tryz.prog w 0 (fun _ => true) true 31 v d p) : ∃ r : Rg, VR (snapAll w) noEnv r.av v ∧ r.wf := by
  obtain ⟨xs, h1, h2⟩ := read_agg 5 Tryz.underlying31 (by kernel_rfl) hv h
  obtain ⟨x, hx, hw⟩ := sh_regs h2
  exact ⟨x, by rw [hx] at h1; exact h1, hw⟩
end
theorem lout : laidOutB Tryz.prog = true := by kernel_rfl
theorem own : ownKnob Tryz.prog.godebug = none := by kernel_rfl
theorem rd_ok {l : List TypeId} (h : (l.all fun t => Tryz.prog.readableRec t && decide (t < Tryz.prog.types.size)) = true) : ∀ t ∈ l, Tryz.prog.readableRec t = true ∧ t < Tryz.prog.types.size := fun t ht => by
  have := List.all_eq_true.1 h t ht
  simpa using this
end Go.Proofs.YtfiflailjbmlpaaGreatDoor
set_option maxRecDepth 100000
set_option linter.unusedVariables false
set_option linter.unusedSimpArgs false
namespace Go.Proofs.YtfiflailjbmlpaaGreatDoor
open Go.AM
open Go.ChangeShapes Go.WideShapes Go.ChangeAt Go.RowKit
theorem cells_patch : Tryz.prog.cellsOf 92 = 3 := by kernel_rfl
theorem sh_patch {xs : List AV} (h : Sh Tryz.prog 92 xs) : ∃ x : Pt, wkL xs = rp x := by
  obtain ⟨xss, rfl, hn, hp⟩ := h.struct_inv Tryz.underlying92
  obtain ⟨a, b, c, rfl⟩ := flat3 hn
  obtain ⟨n0, h0, _⟩ := sh_i64 (hp 0 _ a rfl rfl)
  obtain ⟨n1, h1⟩ := sh_u8 (hp 1 _ b rfl rfl)
  obtain ⟨n2, h2, _⟩ := sh_int (hp 2 _ c rfl rfl)
  exact ⟨⟨n0, n1, n2⟩, by simp [wkL_app, h0, h1, h2]⟩
theorem sh_patched {xs : List AV} (h : Sh Tryz.prog 28 xs) : ∃ p : Pd, wkL xs = [.view false 1 (p.s.perm.map r1), .view false 1 (p.s.byt.map rb), .view false 3 (p.l.map rp)] := by
  obtain ⟨xss, rfl, hn, hp⟩ := h.struct_inv Tryz.underlying28
  obtain ⟨a, b, rfl⟩ := two hn
  obtain ⟨s, h0⟩ := sh_space (hp 0 _ a rfl rfl)
  obtain ⟨f1, r1', h1, _, hr1⟩ := (hp 1 _ b rfl rfl).slice_inv Tryz.underlying26
  obtain ⟨l1, hl1⟩ := Sh.rows (f := rp) (fun row hrow => sh_patch hrow) hr1
  subst h1
  refine ⟨⟨s, l1⟩, ?_⟩
  simp [AV.wk, wkL_app, wkL, h0, hl1, cells_patch]
section
variable {H : Type} {enc : TypeId × Value → H} {w : World} {v : Value} {d : DataW H} {p : List MemPlace} {base : Nat}
theorem read_patched (hv : Value.okWide Tryz.prog w .any base 28 v) (h : DataW.Trod enc Tryz.prog w 0 (fun _ => true) true 28 v d p) : ∃ p : Pd, VR (snapAll w) noEnv p.av v := by
  obtain ⟨xs, h1, h2⟩ := read_agg 5 Tryz.underlying28 (by kernel_rfl) hv h
  obtain ⟨x, hx⟩ := sh_patched h2
  exact ⟨x, by rw [hx] at h1; exact h1⟩
end
end Go.Proofs.YtfiflailjbmlpaaGreatDoor
set_option maxRecDepth 100000
set_option linter.unusedVariables false
set_option linter.unusedSimpArgs false
namespace Go.Proofs.YtfiflailjbmlpaaGreatDoor
open Go.AM
open Go.ChangeShapes Go.WideShapes Go.ChangeAt Go.RowKit
theorem rows_len {P : Program} {e : TypeId} {A : Type} {f : A → List AV} {rows : List (List AV)} {l : List A} (hl : wkR rows = l.map f) (hm : rows.length ≤ maxLen) : l.length ≤ 9223372036854775807 := by
  have h : (wkR rows).length = l.length := by rw [hl, List.length_map]
  have h2 : (wkR rows).length = rows.length := by
    clear hl hm h
    induction rows with
    | nil => simp [wkR]
    | cons a rows ih => simp [wkR, ih]
  unfold maxLen at hm
  omega
def rch (c : Int × Int) : List AV := [iv c.1, iv c.2]
theorem cells_change : Tryz.prog.cellsOf 83 = 2 := by kernel_rfl
theorem sh_change {xs : List AV} (h : Sh Tryz.prog 83 xs) : ∃ c : {c : Int × Int // I64 c.2}, wkL xs = rch c.1 := by
  obtain ⟨xss, rfl, hn, hp⟩ := h.struct_inv Tryz.underlying83
  obtain ⟨a, b, rfl⟩ := two hn
  obtain ⟨n0, h0, _⟩ := sh_int (hp 0 _ a rfl rfl)
  obtain ⟨n1, h1, w⟩ := sh_i64 (hp 1 _ b rfl rfl)
  exact ⟨⟨(n0, n1), w⟩, by simp [wkL_app, h0, h1, rch]⟩
section
variable {H : Type} {enc : TypeId × Value → H} {w : World} {v : Value} {d : DataW H} {p : List MemPlace} {base : Nat}
theorem read_changes (hv : Value.okWide Tryz.prog w .any base 82 v) (h : DataW.Trod enc Tryz.prog w 0 (fun _ => true) true 82 v d p) :
    ∃ l : List (Int × Int), VR (snapAll w) noEnv (.view false 2 (l.map rch)) v ∧ l.length ≤ 9223372036854775807 ∧ ∀ c ∈ l, I64 c.2 := by
  obtain ⟨a0, len, cap, rfl⟩ := okWide_slice Tryz.underlying82 hv
  obtain ⟨n, hn⟩ := h
  obtain ⟨xs, h1, h2⟩ := read_trod 5 _ (by kernel_rfl) n _ _ hn
  obtain ⟨f1, r1', rfl, m3, hr1⟩ := h2.slice_inv Tryz.underlying82
  obtain ⟨l1, hl1⟩ := Sh.rows (f := fun c : {c : Int × Int // I64 c.2} => rch c.1) (fun row hrow => sh_change hrow) hr1
  have hv1 := (h1.2 0 _ _ rfl rfl).1
  refine ⟨l1.map Subtype.val, ?_, by rw [List.length_map]; exact rows_len (P := Tryz.prog) (e := 0) hl1 m3, fun c hc => ?_⟩
  · have := VR.wk hv1
    rw [AV.wk, hl1, cells_change] at this
    rw [List.map_map]
    exact this
  · obtain ⟨x, _, rfl⟩ := List.mem_map.1 hc
    exact x.2
end
end Go.Proofs.YtfiflailjbmlpaaGreatDoor
set_option maxRecDepth 100000
set_option linter.unusedVariables false
set_option linter.unusedSimpArgs false
namespace Go.Proofs.YtfiflailjbmlpaaGreatDoor.patchRuns
open Go.AM
open Go.ChangeShapes Go.WideShapes Go.ChangeAt Go.RowKit
abbrev laid : List (String × DataW Unit) := [("tapline/insn.kinds", Rows.laid_tapline_insn_kinds)]
theorem lifted (os : Os) (started : os.Started) (H : Type) (enc : TypeId × Value → H) :
    ReturnsInHanded {} Tryz.checked os 8 .any (fun w args => (Rows.patchRunsSpec.pre enc Tryz.prog Tryz.f8 Rows.patchRunsRow.domain false w args ∧ laidMetH Tryz.prog laid w) ∧ sizedMet enc Tryz.prog Tryz.f8 (OpenSpec.ofChange Rows.patchRunsSpec) false w args)
      (Rows.patchRunsSpec.post enc Tryz.prog Tryz.f8 false true false false) := by
  refine returnsInHanded_of_change_and (C := Tryz.checked) (X := fun w _ => laidMetH Tryz.prog laid w) (fun _ _ _ hh h => h.of_heap hh) own started (by kernel_rfl) Tryz.func8
    (ChangeSpec.witness_shaped (enc := enc) (C := Tryz.checked) (os := os) (X := fun w _ => laidMetH Tryz.prog laid w) false (World.laidAll Tryz.prog os laid) #[.agg #[.slice none 0 0, .slice none 0 0, .slice none 0 0], .agg #[.int .i64 0, .int .i64 0, .int .i64 0, .int .i64 0, .int .i64 0, .int .i64 0, .int .i64 0, .int .i64 0, .int .i64 0], .slice none 0 0] 8 (World.laidAll_os _ _ _)
      (World.shaped_of_ZipB (by kernel_rfl) (by kernel_rfl)) (by kernel_rfl) (by kernel_rfl) (by kernel_rfl)
      (by rw [MakeChecks.laidMetH_plain _ _ _ (by kernel_rfl)]; exact laidMet_laidAll _ (by kernel_rfl) (by kernel_rfl))) ?_
  intro W base args ds gs before hval0 hW hcnd _ hL _
  have hval : ∀ (j : Nat) t v, Tryz.f8.params[j]? = some t → args[j]? = some v → Value.okWide Tryz.prog W .any base t v := hval0
  have hW' := hW
  obtain ⟨p, q, hA0, hV, rfl, hfz, hnd⟩ := hW'
  have hA : DataW.TrodAll enc Tryz.prog W 0 (fun _ => true) true Tryz.f8.params.toList args.toList ds p := hA0
  rw [Tryz.params8] at hA hval
  obtain ⟨v0, vs0, d0, ds0, p0, q0, hargs, rfl, rfl, h0, t0⟩ := trodAll_cons hA
  obtain ⟨v1, vs1, d1, ds1, p1, q1, rfl, rfl, rfl, h1, t1⟩ := trodAll_cons t0
  obtain ⟨v2, vs2, d2, ds2, p2, q2, rfl, rfl, rfl, h2, t2⟩ := trodAll_cons t1
  obtain ⟨rfl, rfl, rfl⟩ := trodAll_nil t2
  obtain rfl : args = #[v0, v1, v2] := by cases args; simp_all
  obtain ⟨p0, g0⟩ := read_patched (hval 0 _ v0 rfl rfl) h0
  obtain ⟨r1, g1, w1⟩ := read_regs (hval 1 _ v1 rfl rfl) h1
  obtain ⟨l2, g2, m2, w2⟩ := read_changes (hval 2 _ v2 rfl rfl) h2
  refine law_contract (PatchRuns_c p0 r1 w1 l2 m2 w2) hW rfl rfl Tryz.underlying4 rfl lout ?_ (glok hL) (vrs_cons g0 (vrs_cons g1 (vrs_cons g2 vrs_nil)))
  rw [Tryz.params8]
  exact rd_ok (by kernel_rfl)
theorem over : Rows.patchRunsRow.holds Tryz.pinned (OpenSpec.ofChange Rows.patchRunsSpec) :=
  OpenClaim.holds_of_wide 8 Tryz.f8 rfl rfl rfl rfl rfl rfl rfl ⟨rfl, rfl, rfl, rfl, rfl⟩ rfl rfl rfl rfl rfl (by kernel_rfl) Tryz.func8 (by kernel_rfl)
    (of_decide_eq_true (by kernel_rfl)) (by unfold Func.isWrapper; first | (rw [if_pos (by decide +kernel)]; kernel_rfl) | (rw [if_neg (by decide +kernel)]; exact ⟨rfl, rfl⟩))
    (fun os started H enc _ => lifted os started H enc)
end Go.Proofs.YtfiflailjbmlpaaGreatDoor.patchRuns
namespace Go.Proofs.YtfiflailjbmlpaaGreatDoor
open Go.ChangeShapes Go.WideShapes Go.ChangeAt Go.RowKit
theorem PatchRuns_holds : Rows.PatchRunsCardSaid :=
  Claim7.holds_tied_plain_at .later [] [.data] true (true, "ea4cc0f2ded47b671e2122025cf082f487491e1966c9bc2ced630b359658aba1") true patchRuns.over (fun _ h => by cases h) (by kernel_rfl) (fun _ h => by cases h) patchRuns_row_tie rfl ⟨rfl, rfl⟩ (by kernel_rfl) rfl
    (fun f fn hf hfn => by
      obtain rfl : f = 8 := Option.some.inj ((show Tryz.prog.funcNamed "tapline/taplinelaw07.PatchRuns" = some 8 by kernel_rfl).symm.trans hf) |>.symm
      obtain rfl : fn = Tryz.f8 := (Option.some.inj (Tryz.func8.symm.trans hfn)).symm
      exact ⟨by kernel_rfl, fun j t ht => by
        rw [Tryz.params8] at ht
        have hm : t ∈ [28, 31, 82] := by simpa using Array.mem_of_getElem? ht
        have hall : ([28, 31, 82].all fun u => !Tryz.prog.wantsStandIn u) = true := by kernel_rfl
        exact (show Tryz.prog.wantsStandIn t = false by simpa using List.all_eq_true.1 hall t hm)⟩)
    (by kernel_rfl)
end Go.Proofs.YtfiflailjbmlpaaGreatDoor
