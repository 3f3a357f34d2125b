/- probe: ProbeGlobs, as the card states it. No condition. -/
import Derived.Test.YtigmnlnomhjecaaGreatDoorZ6
import Derived.Test.YtigmnlnomhjecaaGreatDoorTie
import Derived.Test.YtigmnlnomhjecaaGreatDoorCards
import Derived.ProofKit
import Derived.OpenShut
import Derived.LaidMore
import Derived.Lay
import Derived.SevenTiedAt
import Derived.Stop.Joined
import Derived.Lib.LaidTab
import Derived.ChangeMaps5
set_option maxRecDepth 100000
set_option linter.unusedVariables false
set_option linter.unusedSimpArgs false
namespace Go.Proofs.YtigmnlnomhjecaaGreatDoor
open Go.AM
open Go.ChangeShapes Go.WideShapes Go.ChangeAt Go.RowKit
open Go.Glob (Bs Dsc)
section
variable {P : Program} {w : World} {fuel : Nat} {t e : TypeId} {cs : List Value} {p : List MemPlace}
abbrev ltr (P : Program) (w : World) (fuel : Nat) (t : TypeId) (cs : List Value) (d : DataW Unit) (p : List MemPlace) : Prop := DataW.trod (fun _ => ()) P w 0 (fun _ => true) false fuel t cs = some (d, p)
theorem ltr_str {b : Bs} (ht : P.underlying t = some .string) (h : ltr P w fuel t cs (.lit (.string b)) p) : cs = [.string ⟨b.toArray⟩] := by
  obtain ⟨s, rfl, hx, _⟩ := DataW.trod_string ht h
  simp only [Prod.mk.injEq, DataW.lit.injEq, Lit.string.injEq] at hx
  rw [hx.1]
theorem ltr_int {k k' : IntKind} {n : Int} (ht : P.underlying t = some (.int k)) (h : ltr P w fuel t cs (.lit (.int k' n)) p) : cs = [.int k n] := by
  obtain ⟨z, rfl, hx, _⟩ := DataW.trod_int ht h
  simp only [Prod.mk.injEq, DataW.lit.injEq, Lit.int.injEq] at hx
  rw [hx.1.2]
theorem chunkF {α β : Type} (V : β → List α) (m : Nat) (hV : ∀ x, (V x).length = m) : ∀ (L : List β) (cs : List α), cs.length = L.length * m → (∀ (i : Nat) x, L[i]? = some x → (cs.drop (i * m)).take m = V x) → cs = L.flatMap V
  | [], cs, h, _ => by simpa using h
  | x :: L, cs, hn, h => by
    have h0 := h 0 x rfl
    simp at h0
    have ih := chunkF V m hV L (cs.drop m) (by simp [hn, Nat.add_mul]) (fun i y hy => by
      have := h (i + 1) y (by simpa using hy)
      rw [List.drop_drop, show m + i * m = (i + 1) * m by rw [Nat.add_mul]; omega]
      exact this)
    rw [List.flatMap_cons, ← ih, ← h0, List.take_append_drop]
theorem ltr_arr {n m : Nat} {α : Type} (L : List α) (D : α → DataW Unit) (V : α → List Value) (ht : P.underlying t = some (.array n e)) (hm : P.cellsOf e = m) (hc : P.cellsOf t = n * m) (hV : ∀ x, (V x).length = m) (hn : L.length = n)
    (hE : ∀ x fuel cs p, ltr P w fuel e cs (D x) p → cs = V x) (h : ltr P w fuel t cs (.agg (L.map D)) p) : cs = L.flatMap V := by
  obtain ⟨xs, k, _, ex, hl, hxl, hel⟩ := DataW.trod_array ht h
  have e3 : L.map D = xs.map (·.1) := DataW.agg.inj (Prod.mk.inj ex).1
  refine chunkF V m hV L cs (by rw [hl, hc, hn]) fun i x hx => ?_
  have hil := (List.getElem?_eq_some_iff.1 hx).1
  have hE1 := hel i (by omega)
  rw [hm, List.getElem?_eq_getElem (by omega)] at hE1
  have hx1 : xs[i].1 = D x := by
    have := congrArg (fun l => l[i]?) e3
    simp only [List.getElem?_map, hx, List.getElem?_eq_getElem (show i < xs.length by omega), Option.map_some, Option.some.injEq] at this
    exact this.symm
  refine hE x k _ xs[i].2 ?_
  rw [ltr, hE1, ← hx1]
theorem laid_var {name : String} {d : DataW Unit} {r : List (String × DataW Unit)} {ps : List MemPlace} {g : Nat} {vs : List Value} (hg : P.globalNamed name = some g) (hty : (P.globals[g]?).map (·.type) = some t)
    (hE : ∀ fuel cs p, ltr P w fuel t cs d p → cs = vs) (h : DataW.LaidVars P w ((name, d) :: r) ps) : (∃ q, DataW.LaidVars P w r q) ∧ ∃ c t f, snapAll w g = some (.cells c t f) ∧ c.toList = vs := by
  obtain ⟨g', t', cs, fuel, p, q, hg', ht', hv, hd, hr, _⟩ := h
  obtain rfl := Option.some.inj (hg.symm.trans hg')
  obtain rfl := Option.some.inj (hty.symm.trans ht')
  have hcs := hE _ _ _ hd
  refine ⟨⟨q, hr⟩, ?_⟩
  rw [World.var?, hg, Option.bind_some] at hv
  unfold snapAll
  split at hv
  · rename_i c t f hh
    cases hv
    exact ⟨_, t, f, hh, hcs⟩
  · cases hv
end
def intV (k : IntKind) (z : Int) : List Value := [.int k z]
def intD (k : IntKind) (z : Int) : DataW Unit := .lit (.int k z)
def strV (s : Bs) : List Value := [.string ⟨s.toArray⟩]
def strD (s : Bs) : DataW Unit := .lit (.string s)
def kdD (x : Bs × Int) : DataW Unit := .agg [.lit (.string x.1), .lit (.int .i64 x.2)]
def kdV (x : Bs × Int) : List Value := [.string ⟨x.1.toArray⟩, .int .i64 x.2]
def otD (x : Bs × Bs × Int) : DataW Unit := .agg [.lit (.string x.1), .lit (.string x.2.1), .lit (.int .i64 x.2.2)]
def otV (x : Bs × Bs × Int) : List Value := [.string ⟨x.1.toArray⟩, .string ⟨x.2.1.toArray⟩, .int .i64 x.2.2]
def intsOf : DataW Unit → List Int
  | .agg ds => ds.map fun | .lit (.int _ n) => n | _ => 0
  | _ => []
def kdOf : DataW Unit → Bs × Int
  | .agg [.lit (.string s), .lit (.int _ n)] => (s, n)
  | _ => ([], 0)
def kd : List (Bs × Int) := match (Rows.laid_tapline_insn_kinds : DataW Unit) with
  | .agg ds => ds.map kdOf
  | _ => []
theorem two {α : Type} : ∀ {l : List α}, l.length = 2 → ∃ a b, l = [a, b]
  | [a, b], _ => ⟨a, b, rfl⟩
theorem three {α : Type} : ∀ {l : List α}, l.length = 3 → ∃ a b c, l = [a, b, c]
  | [a, b, c], _ => ⟨a, b, c, rfl⟩
theorem kd_elem {w : World} (x : Bs × Int) (fuel : Nat) (cs : List Value) (p : List MemPlace) (h : ltr Tryz.prog w fuel 230 cs (kdD x) p) : cs = kdV x := by
  obtain ⟨ys, n, _, ey, hyl, hys, hf⟩ := DataW.trod_struct Tryz.underlying230 h
  have f0 := hf 0 _ rfl
  have f1 := hf 1 _ rfl
  obtain ⟨y0, y1, rfl⟩ := two (show ys.length = 2 from hys)
  have e4 := DataW.agg.inj (Prod.mk.inj ey).1
  simp only [List.map_cons, List.map_nil, List.cons.injEq, and_true] at e4
  rw [show Tryz.prog.cellsOf 230 = 2 by kernel_rfl] at hyl
  obtain ⟨u, v, rfl⟩ := two hyl
  have g0 : ltr Tryz.prog w n 9 [u] (.lit (.string x.1)) y0.2 := by rw [e4.1]; exact f0
  have g1 : ltr Tryz.prog w n 3 [v] (.lit (.int .i64 x.2)) y1.2 := by rw [e4.2]; exact f1
  have s0 := ltr_str Tryz.underlying9 g0
  have s1 := ltr_int Tryz.underlying3 g1
  simp only [List.cons.injEq, and_true] at s0 s1
  rw [s0, s1]; rfl
theorem ot_elem {w : World} (x : Bs × Bs × Int) (fuel : Nat) (cs : List Value) (p : List MemPlace) (h : ltr Tryz.prog w fuel 130 cs (otD x) p) : cs = otV x := by
  obtain ⟨ys, n, _, ey, hyl, hys, hf⟩ := DataW.trod_struct Tryz.underlying130 h
  have f0 := hf 0 _ rfl
  have f1 := hf 1 _ rfl
  have f2 := hf 2 _ rfl
  obtain ⟨y0, y1, y2, rfl⟩ := three (show ys.length = 3 from hys)
  have e4 := DataW.agg.inj (Prod.mk.inj ey).1
  simp only [List.map_cons, List.map_nil, List.cons.injEq, and_true] at e4
  rw [show Tryz.prog.cellsOf 130 = 3 by kernel_rfl] at hyl
  obtain ⟨u, v, z, rfl⟩ := three hyl
  have g0 : ltr Tryz.prog w n 9 [u] (.lit (.string x.1)) y0.2 := by rw [e4.1]; exact f0
  have g1 : ltr Tryz.prog w n 9 [v] (.lit (.string x.2.1)) y1.2 := by rw [e4.2.1]; exact f1
  have g2 : ltr Tryz.prog w n 3 [z] (.lit (.int .i64 x.2.2)) y2.2 := by rw [e4.2.2]; exact f2
  have s0 := ltr_str Tryz.underlying9 g0
  have s1 := ltr_str Tryz.underlying9 g1
  have s2 := ltr_int Tryz.underlying3 g2
  simp only [List.cons.injEq, and_true] at s0 s1 s2
  rw [s0, s1, s2]; rfl
abbrev laid : List (String × DataW Unit) := [("math/bits.deBruijn32tab", Rows.laid_math_bits_deBruijn32tab), ("math/bits.deBruijn64tab", Rows.laid_math_bits_deBruijn64tab), ("internal/strconv.uint64pow10", Rows.laid_internal_strconv_uint64pow10), ("tapline/insn.kinds", Rows.laid_tapline_insn_kinds), ("tapline/probe.calls", Rows.laid_tapline_probe_calls), ("tapline/probe.others", Rows.laid_tapline_probe_others)]
theorem glok {W : World} (h : laidMetH Tryz.prog laid W) : GlOk (snapAll W) := by
  rw [MakeChecks.laidMetH_plain _ _ _ (by kernel_rfl)] at h
  obtain ⟨ps, h, _⟩ := h
  obtain ⟨⟨q1, h⟩, k1⟩ := laid_var (g := 5) (t := 246) (vs := (intsOf Rows.laid_math_bits_deBruijn32tab).flatMap (intV .u8)) (by kernel_rfl) (by kernel_rfl)
    (fun fuel cs p h => ltr_arr (intsOf Rows.laid_math_bits_deBruijn32tab) (intD .u8) (intV .u8) Tryz.underlying246 (show Tryz.prog.cellsOf 5 = 1 by kernel_rfl) (by kernel_rfl) (fun _ => rfl) (by kernel_rfl) (fun x fuel cs p h => ltr_int Tryz.underlying5 h) h) h
  obtain ⟨⟨q2, h⟩, k2⟩ := laid_var (g := 6) (t := 247) (vs := (intsOf Rows.laid_math_bits_deBruijn64tab).flatMap (intV .u8)) (by kernel_rfl) (by kernel_rfl)
    (fun fuel cs p h => ltr_arr (intsOf Rows.laid_math_bits_deBruijn64tab) (intD .u8) (intV .u8) Tryz.underlying247 (show Tryz.prog.cellsOf 5 = 1 by kernel_rfl) (by kernel_rfl) (fun _ => rfl) (by kernel_rfl) (fun x fuel cs p h => ltr_int Tryz.underlying5 h) h) h
  obtain ⟨⟨q3, h⟩, k3⟩ := laid_var (g := 3) (t := 239) (vs := (intsOf Rows.laid_internal_strconv_uint64pow10).flatMap (intV .u64)) (by kernel_rfl) (by kernel_rfl)
    (fun fuel cs p h => ltr_arr (intsOf Rows.laid_internal_strconv_uint64pow10) (intD .u64) (intV .u64) Tryz.underlying239 (show Tryz.prog.cellsOf 223 = 1 by kernel_rfl) (by kernel_rfl) (fun _ => rfl) (by kernel_rfl) (fun x fuel cs p h => ltr_int Tryz.underlying223 h) h) h
  obtain ⟨⟨q4, h⟩, k4⟩ := laid_var (g := 4) (t := 244) (vs := kd.flatMap kdV) (by kernel_rfl) (by kernel_rfl)
    (fun fuel cs p h => ltr_arr kd kdD kdV Tryz.underlying244 (show Tryz.prog.cellsOf 230 = 2 by kernel_rfl) (by kernel_rfl) (fun _ => rfl) (by kernel_rfl) kd_elem h) h
  obtain ⟨⟨q5, h⟩, k5⟩ := laid_var (g := 0) (t := 129) (vs := callN.flatMap strV) (by kernel_rfl) (by kernel_rfl)
    (fun fuel cs p h => ltr_arr callN strD strV Tryz.underlying129 (show Tryz.prog.cellsOf 9 = 1 by kernel_rfl) (by kernel_rfl) (fun _ => rfl) (by kernel_rfl) (fun x fuel cs p h => ltr_str Tryz.underlying9 h) h) h
  obtain ⟨⟨q6, h⟩, k6⟩ := laid_var (g := 1) (t := 131) (vs := othN.flatMap otV) (by kernel_rfl) (by kernel_rfl)
    (fun fuel cs p h => ltr_arr othN otD otV Tryz.underlying131 (show Tryz.prog.cellsOf 130 = 3 by kernel_rfl) (by kernel_rfl) (fun _ => rfl) (by kernel_rfl) ot_elem h) h
  have hgt : gtab = [(0, callN.flatMap strV), (1, othN.flatMap otV), (3, (intsOf Rows.laid_internal_strconv_uint64pow10).flatMap (intV .u64)), (4, kd.flatMap kdV), (5, (intsOf Rows.laid_math_bits_deBruijn32tab).flatMap (intV .u8)), (6, (intsOf Rows.laid_math_bits_deBruijn64tab).flatMap (intV .u8))] := by kernel_rfl
  intro x hx
  rw [hgt] at hx
  simp only [List.mem_cons, List.not_mem_nil, or_false] at hx
  rcases hx with rfl | rfl | rfl | rfl | rfl | rfl
  · exact k5
  · exact k6
  · exact k3
  · exact k4
  · exact k1
  · exact k2
theorem read_str {H : Type} {enc : TypeId × Value → H} {w : World} {v : Value} {d : DataW H} {p : List MemPlace} {base : Nat} (hv : Value.okWide Tryz.prog w .any base 9 v) (h : DataW.Trod enc Tryz.prog w 0 (fun _ => true) true 9 v d p) : ∃ s : Bs, VR (snapAll w) noEnv (Sv s) v ∧ s.length ≤ maxLen := by
  obtain ⟨s, rfl, _, _, hs⟩ := Go.ChangeMaps.open_string Tryz.underlying9 hv h
  exact ⟨s.data.toList, .str _ _, hs⟩
theorem lout : laidOutB Tryz.prog = true := by kernel_rfl
theorem own : ownKnob Tryz.prog.godebug = none := by kernel_rfl
theorem rd_ok {l : List TypeId} (h : (l.all fun t => Tryz.prog.readableRec t && decide (t < Tryz.prog.types.size)) = true) : ∀ t ∈ l, Tryz.prog.readableRec t = true ∧ t < Tryz.prog.types.size := fun t ht => by
  have := List.all_eq_true.1 h t ht
  simpa using this
end Go.Proofs.YtigmnlnomhjecaaGreatDoor
set_option maxRecDepth 100000
set_option linter.unusedVariables false
set_option linter.unusedSimpArgs false
namespace Go.Proofs.YtigmnlnomhjecaaGreatDoor.probeGlobs
open Go.AM
open Go.ChangeShapes Go.WideShapes Go.ChangeAt Go.RowKit
theorem lifted (os : Os) (started : os.Started) (H : Type) (enc : TypeId × Value → H) :
    ReturnsInHanded {} Tryz.checked os 3 .any (fun w args => (Rows.probeGlobsSpec.pre enc Tryz.prog Tryz.f3 Rows.probeGlobsRow.domain false w args ∧ laidMetH Tryz.prog laid w) ∧ sizedMet enc Tryz.prog Tryz.f3 (OpenSpec.ofChange Rows.probeGlobsSpec) false w args)
      (Rows.probeGlobsSpec.post enc Tryz.prog Tryz.f3 false true false false) := by
  refine returnsInHanded_of_change_and (C := Tryz.checked) (X := fun w _ => laidMetH Tryz.prog laid w) (fun _ _ _ hh h => h.of_heap hh) own started (by kernel_rfl) Tryz.func3
    (ChangeSpec.witness_shaped (enc := enc) (C := Tryz.checked) (os := os) (X := fun w _ => laidMetH Tryz.prog laid w) false (World.laidAll Tryz.prog os laid) #[.string ⟨#[]⟩, .string ⟨#[]⟩, .string ⟨#[]⟩] 8 (World.laidAll_os _ _ _)
      (World.shaped_of_ZipB (by kernel_rfl) (by kernel_rfl)) (by kernel_rfl) (by kernel_rfl) (by kernel_rfl)
      (by rw [MakeChecks.laidMetH_plain _ _ _ (by kernel_rfl)]; exact laidMet_laidAll _ (by kernel_rfl) (by kernel_rfl))) ?_
  intro W base args ds gs before hval0 hW hcnd hzz hL _
  have hval : ∀ (j : Nat) t v, Tryz.f3.params[j]? = some t → args[j]? = some v → Value.okWide Tryz.prog W .any base t v := hval0
  have hW' := hW
  obtain ⟨p, q, hA0, hV, rfl, hfz, hnd⟩ := hW'
  have hA : DataW.TrodAll enc Tryz.prog W 0 (fun _ => true) true Tryz.f3.params.toList args.toList ds p := hA0
  rw [Tryz.params3] at hA hval hzz
  obtain ⟨v0, vs0, d0, ds0, p0, q0, hargs, rfl, rfl, h0, t0⟩ := trodAll_cons hA
  obtain ⟨v1, vs1, d1, ds1, p1, q1, rfl, rfl, rfl, h1, t1⟩ := trodAll_cons t0
  obtain ⟨v2, vs2, d2, ds2, p2, q2, rfl, rfl, rfl, h2, t2⟩ := trodAll_cons t1
  obtain ⟨rfl, rfl, rfl⟩ := trodAll_nil t2
  obtain rfl : args = #[v0, v1, v2] := by cases args; simp_all
  obtain ⟨s0, g0, w0⟩ := read_str (hval 0 _ v0 rfl rfl) h0
  obtain ⟨s1, g1, w1⟩ := read_str (hval 1 _ v1 rfl rfl) h1
  obtain ⟨s2, g2, w2⟩ := read_str (hval 2 _ v2 rfl rfl) h2
  refine law_contract (ProbeGlobs_c s0 s1 s2) hW rfl rfl Tryz.underlying4 rfl lout ?_ (glok hL) (vrs_cons g0 (vrs_cons g1 (vrs_cons g2 vrs_nil)))
  rw [Tryz.params3]
  exact rd_ok (by kernel_rfl)
theorem over : Rows.probeGlobsRow.holds Tryz.pinned (OpenSpec.ofChange Rows.probeGlobsSpec) :=
  OpenClaim.holds_of_wide 3 Tryz.f3 rfl rfl rfl rfl rfl rfl rfl ⟨rfl, rfl, rfl, rfl, rfl⟩ rfl rfl rfl rfl rfl (by kernel_rfl) Tryz.func3 (by kernel_rfl)
    (of_decide_eq_true (by kernel_rfl)) (by unfold Func.isWrapper; first | (rw [if_pos (by decide +kernel)]; kernel_rfl) | (rw [if_neg (by decide +kernel)]; exact ⟨rfl, rfl⟩))
    (fun os started H enc _ => lifted os started H enc)
end Go.Proofs.YtigmnlnomhjecaaGreatDoor.probeGlobs
namespace Go.Proofs.YtigmnlnomhjecaaGreatDoor
open Go.ChangeShapes Go.WideShapes Go.ChangeAt Go.RowKit
theorem ProbeGlobs_holds : Rows.ProbeGlobsCardSaid :=
  Claim7.holds_tied_plain_at .later [] [.data, .data, .data, .data, .data, .data] true (true, "fe7c66a646c23e65cb42711fe7e95bd8574403d3ad0aff96fd9e29440809e27f") true probeGlobs.over (fun _ h => by cases h) (by kernel_rfl) (fun _ h => by cases h) probeGlobs_row_tie rfl ⟨rfl, rfl⟩ (by kernel_rfl) rfl
    (fun f fn hf hfn => by
      obtain rfl : f = 3 := Option.some.inj ((show Tryz.prog.funcNamed "tapline/taplinelaw10.ProbeGlobs" = some 3 by kernel_rfl).symm.trans hf) |>.symm
      obtain rfl : fn = Tryz.f3 := (Option.some.inj (Tryz.func3.symm.trans hfn)).symm
      exact ⟨by kernel_rfl, fun j t ht => by
        rw [Tryz.params3] at ht
        have hm : t ∈ [9, 9, 9] := by simpa using Array.mem_of_getElem? ht
        have hall : ([9, 9, 9].all fun u => !Tryz.prog.wantsStandIn u) = true := by kernel_rfl
        exact (show Tryz.prog.wantsStandIn t = false by simpa using List.all_eq_true.1 hall t hm)⟩)
    (by kernel_rfl)
end Go.Proofs.YtigmnlnomhjecaaGreatDoor
