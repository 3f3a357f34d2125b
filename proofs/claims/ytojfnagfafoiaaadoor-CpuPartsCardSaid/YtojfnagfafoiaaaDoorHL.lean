/- cpu: the statement CpuParts. No condition. -/
import Derived.Test.YtojfnagfafoiaaaDoorST
import Derived.Test.YtojfnagfafoiaaaDoorSP
import Derived.Test.YtojfnagfafoiaaaDoorSQ
set_option maxRecDepth 100000
set_option linter.unusedVariables false
set_option linter.unusedSimpArgs false
namespace Go.Proofs.YtojfnagfafoiaaaDoor
open Go.AM
theorem run_short : ∀ (a b : Nat) (s : Sp) (e : Eff), (run s e a).2.2 < a → run s e (a + b) = run s e a
  | 0, b, s, e, h => absurd h (Nat.not_lt_zero _)
  | a + 1, b, s, e, h => by
    rw [show a + 1 + b = (a + b) + 1 by omega, run_succ, run_succ]
    rw [run_succ] at h
    split at h
    · rename_i hk
      rw [if_pos hk, if_pos hk, run_short a b _ _ (by simpa using h)]
    · rename_i hk
      rw [if_neg hk, if_neg hk]
theorem run_full : ∀ (a b : Nat) (s : Sp) (e : Eff), (run s e a).2.2 = a →
    run s e (a + b) = ((run (run s e a).1 (run s e a).2.1 b).1, (run (run s e a).1 (run s e a).2.1 b).2.1, (run (run s e a).1 (run s e a).2.1 b).2.2 + a)
  | 0, b, s, e, h => by rw [Nat.zero_add]; rfl
  | a + 1, b, s, e, h => by
    rw [show a + 1 + b = (a + b) + 1 by omega, run_succ]
    rw [run_succ] at h ⊢
    split at h
    · rename_i hk
      rw [if_pos hk, if_pos hk, run_full a b _ _ (by simpa using h)]
      rfl
    · exact absurd h (by simp)
theorem run_rg (s : Sp) (e f : Eff) (h : e.rg = f.rg) : ∀ b : Nat, 0 < b → run s e b = run s f b
  | 0, h0 => absurd h0 (Nat.lt_irrefl _)
  | b + 1, _ => by rw [run_succ, run_succ, h]
theorem CpuParts_c (s : Sp) (r : Rg) (hr : r.wf) (n0 n1 : UInt8) :
    ACalls Tryd.prog 15 [.agg (.view false 1 (s.perm.map r1) :: .view false 1 (s.byt.map rb) :: r.cells), .agg [bv n0, bv n1]] [] (fun o H => o = .ret (.bool true) ∧ H = []) := by
  refine ACalls.up ?_
  refine ACalls.intro (cs := []) (n := 120) Tryd.func15 rfl rfl rfl (by kernel_rfl) rfl ?_
  generalize hpost : (fun (o : Out) (H : Heap) => o = Out.ret (.bool true) ∧ H = []) = post
  have fin : ∀ H, Up 0 post (.ret (.bool true)) H := fun H => finv rfl (by rw [← hpost]; exact ⟨rfl, rfl⟩) H
  simp only [go_sem,Nat.reduceAdd,Nat.reduceSub,Nat.reduceMul,Nat.reduceEqDiff,Nat.reduceLeDiff,Nat.reduceLT,↓reduceIte,Int.reduceToNat,reduceCtorEq,Int.reduceLT,Int.reduceLE,Int.reduceGT,Int.reduceGE,Int.reduceEq,Int.reduceNe,Int.reduceNeg,Int.reduceAdd,Int.reduceSub,Rg.cells]
  refine rK_use (enters_of Tryd.func16 rfl (by decide)) (ACalls.pure_use (sane_c) rfl rfl) ?_
  have u0 := u8_lt n0
  have u1 := u8_lt n1
  have v0 := u8_ge n0
  have v1 := u8_ge n1
  obtain ⟨a, hA, ha⟩ : ∃ a : Nat, (n0.toNat : Int).tmod 101 = a ∧ a ≤ 100 :=
    ⟨((n0.toNat : Int).tmod 101).toNat, (Int.toNat_of_nonneg (Int.tmod_nonneg 101 v0)).symm, by have := Int.tmod_lt_of_pos (n0.toNat : Int) (b := 101) (by decide); omega⟩
  obtain ⟨b, hB, hb⟩ : ∃ b : Nat, (n1.toNat : Int).tmod 101 = b ∧ b ≤ 100 :=
    ⟨((n1.toNat : Int).tmod 101).toNat, (Int.toNat_of_nonneg (Int.tmod_nonneg 101 v1)).symm, by have := Int.tmod_lt_of_pos (n1.toNat : Int) (b := 101) (by decide); omega⟩
  have e0 : iw .i64 (n0.toNat : Int) = n0.toNat := iw64 (by omega) (by omega)
  have e1 : iw .i64 (n1.toNat : Int) = n1.toNat := iw64 (by omega) (by omega)
  have e2 : iw .i64 ((a : Int) + b) = ((a + b : Nat) : Int) := by rw [iw64] <;> omega
  simp only [go_sem,Nat.reduceAdd,Nat.reduceSub,Nat.reduceMul,Nat.reduceEqDiff,Nat.reduceLeDiff,Nat.reduceLT,↓reduceIte,Int.reduceToNat,reduceCtorEq,Int.reduceLT,Int.reduceLE,Int.reduceGT,Int.reduceGE,Int.reduceEq,Int.reduceNe,Int.reduceNeg,Int.reduceAdd,Int.reduceSub,e0,e1,hA,hB]
  by_cases hs : s.ok
  rotate_left
  · have hR1 := Run_bad s hs r a
    have hR2 := Run_bad s hs r (a + b : Nat)
    refine rK_use (enters_of Tryd.func46 rfl (by decide)) (ACalls.pure_use hR1 rfl (by simp [AV.lt, ltL, Eff.av_lt, Sp.av])) ?_
    simp only [go_sem,Nat.reduceAdd,Nat.reduceSub,Nat.reduceMul,Nat.reduceEqDiff,Nat.reduceLeDiff,Nat.reduceLT,↓reduceIte,Int.reduceToNat,reduceCtorEq,Int.reduceLT,Int.reduceLE,Int.reduceGT,Int.reduceGE,Int.reduceEq,Int.reduceNe,Int.reduceNeg,Int.reduceAdd,Int.reduceSub,Sp.av,Eff.av,Eff.cells,Eff.cellsD,Rg.cells,e2]
    refine rK_use (enters_of Tryd.func46 rfl (by decide)) (ACalls.pure_use hR2 rfl (by simp [AV.lt, ltL, Eff.av_lt, Sp.av])) ?_
    simp only [go_sem,Nat.reduceAdd,Nat.reduceSub,Nat.reduceMul,Nat.reduceEqDiff,Nat.reduceLeDiff,Nat.reduceLT,↓reduceIte,Int.reduceToNat,reduceCtorEq,Int.reduceLT,Int.reduceLE,Int.reduceGT,Int.reduceGE,Int.reduceEq,Int.reduceNe,Int.reduceNeg,Int.reduceAdd,Int.reduceSub,Sp.av,Eff.av,Eff.cells,Eff.cellsD,Rg.cells]
    exact fin _
  have hR1 := Run_c s hs r hr a (by omega)
  have hR2 := Run_c s hs r hr (a + b) (by omega)
  have ho := run_ok a s (effR r) hs hr
  have hl := run_le a s (effR r)
  have hsh := run_short a b s (effR r)
  have hfu := run_full a b s (effR r)
  have hb0 : b = 0 → run s (effR r) (a + b) = run s (effR r) a := fun h => by rw [h]; rfl
  generalize run s (effR r) (a + b) = q2 at *
  generalize run s (effR r) a = q1 at *
  obtain ⟨t, e, k⟩ := q1
  obtain ⟨t2, f, k2⟩ := q2
  simp only at ho hl hsh hfu
  simp only [runV] at hR1 hR2
  refine rK_use (enters_of Tryd.func46 rfl (by decide)) (ACalls.pure_use hR1 rfl (by simp [AV.lt, ltL, Eff.av_lt, Sp.av])) ?_
  simp only [go_sem,Nat.reduceAdd,Nat.reduceSub,Nat.reduceMul,Nat.reduceEqDiff,Nat.reduceLeDiff,Nat.reduceLT,↓reduceIte,Int.reduceToNat,reduceCtorEq,Int.reduceLT,Int.reduceLE,Int.reduceGT,Int.reduceGE,Int.reduceEq,Int.reduceNe,Int.reduceNeg,Int.reduceAdd,Int.reduceSub,Sp.av,Eff.av,Eff.cells,Eff.cellsD,Rg.cells,e2]
  refine rK_use (enters_of Tryd.func46 rfl (by decide)) (ACalls.pure_use hR2 rfl (by simp [AV.lt, ltL, Eff.av_lt, Sp.av])) ?_
  simp only [go_sem,Nat.reduceAdd,Nat.reduceSub,Nat.reduceMul,Nat.reduceEqDiff,Nat.reduceLeDiff,Nat.reduceLT,↓reduceIte,Int.reduceToNat,reduceCtorEq,Int.reduceLT,Int.reduceLE,Int.reduceGT,Int.reduceGE,Int.reduceEq,Int.reduceNe,Int.reduceNeg,Int.reduceAdd,Int.reduceSub,Sp.av,Eff.av,Eff.cells,Eff.cellsD,Rg.cells]
  rcases Decidable.em ((k : Int) < a) with hk | hk
  · obtain ⟨rfl, rfl, rfl⟩ : t2 = t ∧ f = e ∧ k2 = k := by simpa using hsh (by omega)
    simp only [go_sem,Nat.reduceAdd,Nat.reduceSub,Nat.reduceMul,Nat.reduceEqDiff,Nat.reduceLeDiff,Nat.reduceLT,↓reduceIte,Int.reduceToNat,reduceCtorEq,Int.reduceLT,Int.reduceLE,Int.reduceGT,Int.reduceGE,Int.reduceEq,Int.reduceNe,Int.reduceNeg,Int.reduceAdd,Int.reduceSub,eq_true hk]
    have hS := rsames_c t2 t2 (by have := ho.1.p32; omega)
    have hE := Same_c f f
    rw [sameS_self] at hS
    rw [sameE_self] at hE
    refine rK_use (enters_of Tryd.func43 rfl (by decide)) (ACalls.pure_use hS rfl rfl) ?_
    simp only [go_sem,Nat.reduceAdd,Nat.reduceSub,Nat.reduceMul,Nat.reduceEqDiff,Nat.reduceLeDiff,Nat.reduceLT,↓reduceIte,Int.reduceToNat,reduceCtorEq,Int.reduceLT,Int.reduceLE,Int.reduceGT,Int.reduceGE,Int.reduceEq,Int.reduceNe,Int.reduceNeg,Int.reduceAdd,Int.reduceSub,Eff.av,Eff.cells,Eff.cellsD]
    refine rK_use (enters_of Tryd.func25 rfl (by decide)) (ACalls.pure_use hE rfl rfl) ?_
    simp only [go_sem,Nat.reduceAdd,Nat.reduceSub,Nat.reduceMul,Nat.reduceEqDiff,Nat.reduceLeDiff,Nat.reduceLT,↓reduceIte,Int.reduceToNat,reduceCtorEq,Int.reduceLT,Int.reduceLE,Int.reduceGT,Int.reduceGE,Int.reduceEq,Int.reduceNe,Int.reduceNeg,Int.reduceAdd,Int.reduceSub]
    exact fin _
  rcases Decidable.em ((b : Int) = 0) with hz | hz
  · obtain ⟨rfl, rfl, rfl⟩ : t2 = t ∧ f = e ∧ k2 = k := by simpa using hb0 (by omega)
    simp only [go_sem,Nat.reduceAdd,Nat.reduceSub,Nat.reduceMul,Nat.reduceEqDiff,Nat.reduceLeDiff,Nat.reduceLT,↓reduceIte,Int.reduceToNat,reduceCtorEq,Int.reduceLT,Int.reduceLE,Int.reduceGT,Int.reduceGE,Int.reduceEq,Int.reduceNe,Int.reduceNeg,Int.reduceAdd,Int.reduceSub,eq_false hk,eq_true hz]
    have hS := rsames_c t2 t2 (by have := ho.1.p32; omega)
    have hE := Same_c f f
    rw [sameS_self] at hS
    rw [sameE_self] at hE
    refine rK_use (enters_of Tryd.func43 rfl (by decide)) (ACalls.pure_use hS rfl rfl) ?_
    simp only [go_sem,Nat.reduceAdd,Nat.reduceSub,Nat.reduceMul,Nat.reduceEqDiff,Nat.reduceLeDiff,Nat.reduceLT,↓reduceIte,Int.reduceToNat,reduceCtorEq,Int.reduceLT,Int.reduceLE,Int.reduceGT,Int.reduceGE,Int.reduceEq,Int.reduceNe,Int.reduceNeg,Int.reduceAdd,Int.reduceSub,Eff.av,Eff.cells,Eff.cellsD]
    refine rK_use (enters_of Tryd.func25 rfl (by decide)) (ACalls.pure_use hE rfl rfl) ?_
    simp only [go_sem,Nat.reduceAdd,Nat.reduceSub,Nat.reduceMul,Nat.reduceEqDiff,Nat.reduceLeDiff,Nat.reduceLT,↓reduceIte,Int.reduceToNat,reduceCtorEq,Int.reduceLT,Int.reduceLE,Int.reduceGT,Int.reduceGE,Int.reduceEq,Int.reduceNe,Int.reduceNeg,Int.reduceAdd,Int.reduceSub]
    exact fin _
  have hka : k = a := by omega
  subst hka
  have hR3 := Run_c t ho.1 e.rg ho.2 b (by omega)
  rw [run_rg t (effR e.rg) e rfl b (by omega)] at hR3
  have hF := hfu rfl
  have ho3 := run_ok b t e ho.1 ho.2
  have hl3 := run_le b t e
  generalize run t e b = q3 at *
  obtain ⟨t3, g, k3⟩ := q3
  obtain ⟨rfl, rfl, rfl⟩ : t2 = t3 ∧ f = g ∧ k2 = k3 + k := by simpa using hF
  simp only [runV] at hR3
  simp only at ho3 hl3
  have e3 : iw .i64 ((k : Int) + k3) = ((k3 + k : Nat) : Int) := by rw [iw64] <;> omega
  have hS := rsames_c t2 t2 (by have := ho3.1.p32; omega)
  have hE := Same_c f f
  rw [sameS_self] at hS
  rw [sameE_self] at hE
  simp only [go_sem,Nat.reduceAdd,Nat.reduceSub,Nat.reduceMul,Nat.reduceEqDiff,Nat.reduceLeDiff,Nat.reduceLT,↓reduceIte,Int.reduceToNat,reduceCtorEq,Int.reduceLT,Int.reduceLE,Int.reduceGT,Int.reduceGE,Int.reduceEq,Int.reduceNe,Int.reduceNeg,Int.reduceAdd,Int.reduceSub,eq_false hk,eq_false hz,Eff.av,Eff.cells,Eff.cellsD]
  refine rK_use (enters_of Tryd.func46 rfl (by decide)) (ACalls.pure_use hR3 rfl (by simp [AV.lt, ltL, Eff.av_lt, Sp.av])) ?_
  simp only [go_sem,Nat.reduceAdd,Nat.reduceSub,Nat.reduceMul,Nat.reduceEqDiff,Nat.reduceLeDiff,Nat.reduceLT,↓reduceIte,Int.reduceToNat,reduceCtorEq,Int.reduceLT,Int.reduceLE,Int.reduceGT,Int.reduceGE,Int.reduceEq,Int.reduceNe,Int.reduceNeg,Int.reduceAdd,Int.reduceSub,Sp.av,Eff.av,Eff.cells,Eff.cellsD]
  refine rK_use (enters_of Tryd.func43 rfl (by decide)) (ACalls.pure_use hS rfl rfl) ?_
  simp only [go_sem,Nat.reduceAdd,Nat.reduceSub,Nat.reduceMul,Nat.reduceEqDiff,Nat.reduceLeDiff,Nat.reduceLT,↓reduceIte,Int.reduceToNat,reduceCtorEq,Int.reduceLT,Int.reduceLE,Int.reduceGT,Int.reduceGE,Int.reduceEq,Int.reduceNe,Int.reduceNeg,Int.reduceAdd,Int.reduceSub]
  refine rK_use (enters_of Tryd.func25 rfl (by decide)) (ACalls.pure_use hE rfl rfl) ?_
  simp only [go_sem,Nat.reduceAdd,Nat.reduceSub,Nat.reduceMul,Nat.reduceEqDiff,Nat.reduceLeDiff,Nat.reduceLT,↓reduceIte,Int.reduceToNat,reduceCtorEq,Int.reduceLT,Int.reduceLE,Int.reduceGT,Int.reduceGE,Int.reduceEq,Int.reduceNe,Int.reduceNeg,Int.reduceAdd,Int.reduceSub,e3]
  exact fin _
end Go.Proofs.YtojfnagfafoiaaaDoor

set_option maxRecDepth 100000
set_option linter.unusedVariables false
set_option linter.unusedSimpArgs false
namespace Go.Proofs.YtojfnagfafoiaaaDoor.cpuParts
open Go.AM
open Go.ChangeShapes Go.WideShapes Go.ChangeAt Go.RowKit
abbrev laid : List (String × DataW Unit) := [("tapline/insn.kinds", Rows.laid_tapline_insn_kinds)]
theorem lifted (os : Os) (started : os.Started) (H : Type) (enc : TypeId × Value → H) :
    ReturnsInHanded {} Tryd.checked os 15 .any (fun w args => (Rows.cpuPartsSpec.pre enc Tryd.prog Tryd.f15 Rows.cpuPartsRow.domain false w args ∧ laidMetH Tryd.prog laid w) ∧ sizedMet enc Tryd.prog Tryd.f15 (OpenSpec.ofChange Rows.cpuPartsSpec) false w args)
      (Rows.cpuPartsSpec.post enc Tryd.prog Tryd.f15 false true false false) := by
  refine returnsInHanded_of_change_and (C := Tryd.checked) (X := fun w _ => laidMetH Tryd.prog laid w) (fun _ _ _ hh h => h.of_heap hh) own started (by kernel_rfl) Tryd.func15
    (ChangeSpec.witness_shaped (enc := enc) (C := Tryd.checked) (os := os) (X := fun w _ => laidMetH Tryd.prog laid w) false (World.laidAll Tryd.prog os laid) #[.agg #[.slice none 0 0, .slice none 0 0, .int .i64 0, .int .i64 0, .int .i64 0, .int .i64 0, .int .i64 0, .int .i64 0, .int .i64 0, .int .i64 0, .int .i64 0], .agg #[.int .u8 0, .int .u8 0]] 8 (World.laidAll_os _ _ _)
      (World.shaped_of_ZipB (by kernel_rfl) (by kernel_rfl)) (by kernel_rfl) (by kernel_rfl) (by kernel_rfl)
      (by rw [MakeChecks.laidMetH_plain _ _ _ (by kernel_rfl)]; exact laidMet_laidAll _ (by kernel_rfl) (by kernel_rfl))) ?_
  intro W base args ds gs before hval0 hW hcnd _ hL _
  have hval : ∀ (j : Nat) t v, Tryd.f15.params[j]? = some t → args[j]? = some v → Value.okWide Tryd.prog W .any base t v := hval0
  have hW' := hW
  obtain ⟨p, q, hA0, hV, rfl, hfz, hnd⟩ := hW'
  have hA : DataW.TrodAll enc Tryd.prog W 0 (fun _ => true) true Tryd.f15.params.toList args.toList ds p := hA0
  rw [Tryd.params15] at hA hval
  obtain ⟨v0, vs0, d0, ds0, p0, q0, hargs, rfl, rfl, h0, t0⟩ := trodAll_cons hA
  obtain ⟨v1, vs1, d1, ds1, p1, q1, rfl, rfl, rfl, h1, t1⟩ := trodAll_cons t0
  obtain ⟨rfl, rfl, rfl⟩ := trodAll_nil t1
  obtain rfl : args = #[v0, v1] := by cases args; simp_all
  obtain ⟨s0, r0, g0, w0⟩ := read_place (hval 0 _ v0 rfl rfl) h0
  obtain ⟨a1, b1, g1⟩ := read_two (hval 1 _ v1 rfl rfl) h1
  refine law_contract (CpuParts_c s0 r0 w0 a1 b1) hW rfl rfl Tryd.underlying4 rfl lout ?_ (glok hL) (vrs_cons g0 (vrs_cons g1 vrs_nil))
  rw [Tryd.params15]
  exact rd_ok (by kernel_rfl)
theorem over : Rows.cpuPartsRow.holds Tryd.pinned (OpenSpec.ofChange Rows.cpuPartsSpec) :=
  OpenClaim.holds_of_wide 15 Tryd.f15 rfl rfl rfl rfl rfl rfl rfl ⟨rfl, rfl, rfl, rfl, rfl⟩ rfl rfl rfl rfl rfl (by kernel_rfl) Tryd.func15 (by kernel_rfl)
    (of_decide_eq_true (by kernel_rfl)) (by unfold Func.isWrapper; first | (rw [if_pos (by decide +kernel)]; kernel_rfl) | (rw [if_neg (by decide +kernel)]; exact ⟨rfl, rfl⟩))
    (fun os started H enc _ => lifted os started H enc)
end Go.Proofs.YtojfnagfafoiaaaDoor.cpuParts
namespace Go.Proofs.YtojfnagfafoiaaaDoor
open Go.ChangeShapes Go.WideShapes Go.ChangeAt Go.RowKit
theorem CpuParts_holds : Rows.CpuPartsCardSaid :=
  Claim7.holds_tied_plain_at .later [] [.data] true (true, "761dd2c4e361e325525882ee5ba11d7f08fc5ffec0876965a76a3878492cd312") true cpuParts.over (fun _ h => by cases h) (by kernel_rfl) (fun _ h => by cases h) cpuParts_row_tie rfl ⟨rfl, rfl⟩ (by kernel_rfl) rfl
    (fun f fn hf hfn => by
      obtain rfl : f = 15 := Option.some.inj ((show Tryd.prog.funcNamed "tapline/taplinelaw04.CpuParts" = some 15 by kernel_rfl).symm.trans hf) |>.symm
      obtain rfl : fn = Tryd.f15 := (Option.some.inj (Tryd.func15.symm.trans hfn)).symm
      exact ⟨by kernel_rfl, fun j t ht => by
        rw [Tryd.params15] at ht
        have hm : t ∈ [49, 94] := by simpa using Array.mem_of_getElem? ht
        have hall : ([49, 94].all fun u => !Tryd.prog.wantsStandIn u) = true := by kernel_rfl
        exact (show Tryd.prog.wantsStandIn t = false by simpa using List.all_eq_true.1 hall t hm)⟩)
    (by kernel_rfl)
end Go.Proofs.YtojfnagfafoiaaaDoor
