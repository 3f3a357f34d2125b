/- cpu: effects and small arrays as they are read. No condition. -/
import Derived.Test.YtojfnagfafoiaaaDoorSE
import Derived.Test.YtojfnagfafoiaaaDoorSD
set_option maxRecDepth 100000
set_option linter.unusedVariables false
set_option linter.unusedSimpArgs false
namespace Go.Proofs.YtojfnagfafoiaaaDoor
open Go.AM
open Go.ChangeShapes Go.WideShapes Go.ChangeAt Go.RowKit
theorem flat5 {xss : List (List AV)} (h : xss.length = 5) : ∃ a b c d e, xss = [a, b, c, d, e] := by
  match xss, h with
  | [a, b, c, d, e], _ => exact ⟨a, b, c, d, e, rfl⟩
theorem sh_fault {xs : List AV} (h : Sh Tryd.prog 33 xs) : ∃ f : Flt, wkL xs = f.cells := by
  obtain ⟨xss, rfl, hn, hp⟩ := h.struct_inv Tryd.underlying33
  obtain ⟨a, b, rfl⟩ := two hn
  obtain ⟨n0, h0, _⟩ := sh_int (hp 0 _ a rfl rfl)
  obtain ⟨n1, h1, _⟩ := sh_i64 (hp 1 _ b rfl rfl)
  exact ⟨⟨n0, n1⟩, by simp [wkL_app, h0, h1, Flt.cells]⟩
theorem sh_trap {xs : List AV} (h : Sh Tryd.prog 35 xs) : ∃ f : Trp, wkL xs = f.cells := by
  obtain ⟨xss, rfl, hn, hp⟩ := h.struct_inv Tryd.underlying35
  obtain ⟨a, b, c, rfl⟩ := flat3 hn
  obtain ⟨n0, h0, _⟩ := sh_int (hp 0 _ a rfl rfl)
  first
    | (obtain ⟨n1, h1, _⟩ := sh_int (hp 1 _ b rfl rfl)
       obtain ⟨f, h2⟩ := sh_fault (hp 2 _ c rfl rfl)
       exact ⟨⟨n0, n1, f⟩, by simp [wkL_app, h0, h1, h2, Trp.cells, Flt.cells]⟩)
    | (obtain ⟨f, h2⟩ := sh_fault (hp 1 _ b rfl rfl)
       obtain ⟨n1, h1, _⟩ := sh_int (hp 2 _ c rfl rfl)
       exact ⟨⟨n0, n1, f⟩, by simp [wkL_app, h0, h1, h2, Trp.cells, Flt.cells]⟩)
theorem sh_bytes {xs : List AV} (h : Sh Tryd.prog 25 xs) : ∃ l : List UInt8, wkL xs = [.view false 1 (l.map rb)] := by
  obtain ⟨f2, r2', h2, _, hr2⟩ := h.slice_inv Tryd.underlying25
  obtain ⟨l2, hl2⟩ := Sh.rows (f := rb) (fun row hrow => sh_u8 hrow) hr2
  subst h2
  exact ⟨l2, by simp [AV.wk, wkL, hl2, cells_u8]⟩
theorem sh_effect {xs : List AV} (h : Sh Tryd.prog 37 xs) : ∃ e : Eff, wkL xs = e.cells ∧ I64 e.pos ∧ e.rg.wf := by
  obtain ⟨xss, rfl, hn, hp⟩ := h.struct_inv Tryd.underlying37
  obtain ⟨a, b, c, d, e, rfl⟩ := flat5 hn
  obtain ⟨r, h0, w0⟩ := sh_regs (hp 0 _ a rfl rfl)
  obtain ⟨n, h1, w1⟩ := sh_i64 (hp 1 _ b rfl rfl)
  obtain ⟨l, h2⟩ := sh_bytes (hp 2 _ c rfl rfl)
  obtain ⟨t, h3⟩ := sh_trap (hp 3 _ d rfl rfl)
  obtain ⟨x, h4⟩ := sh_insn (hp 4 _ e rfl rfl)
  exact ⟨⟨r, n, l, t, x⟩, by simp [wkL_app, h0, h1, h2, h3, h4, Eff.cells, Eff.cellsD, Rg.cells, Trp.cells, Ins.cells], w1, w0⟩
theorem read_arr {H : Type} {enc : TypeId × Value → H} {P : Program} {w : World} {t : TypeId} {k : Nat} {e : TypeId} {v : Value} {d : DataW H} {p : List MemPlace} {base : Nat} (m : Nat) (ht : P.underlying t = some (.array k e)) (hp : plainB P m t = true)
    (hv : Value.okWide P w .any base t v) (h : DataW.Trod enc P w 0 (fun _ => true) true t v d p) : ∃ xs, VR (snapAll w) noEnv (.agg (wkL xs)) v ∧ Sh P t xs := by
  unfold Value.okWide at hv
  rw [ht] at hv
  obtain ⟨cs, rfl, _⟩ := hv
  obtain ⟨n, hn⟩ := h
  obtain ⟨xs, h1, h2⟩ := read_trod m t hp n _ _ hn
  have hlen : xs.length = cs.size := by rw [h1.1]; simp [Value.cells]
  refine ⟨xs, ?_, h2⟩
  have := VR.wk (VR.agg (sn := snapAll w) noEnv xs cs hlen.symm fun k x y hx hy => (h1.2 k x y hx (by simpa [Value.cells] using hy)).1)
  simpa [AV.wk] using this
section
variable {H : Type} {enc : TypeId × Value → H} {w : World} {v : Value} {d : DataW H} {p : List MemPlace} {base : Nat}
theorem read_effect (hv : Value.okWide Tryd.prog w .any base 37 v) (h : DataW.Trod enc Tryd.prog w 0 (fun _ => true) true 37 v d p) : ∃ e : Eff, VR (snapAll w) noEnv e.av v ∧ I64 e.pos := by
  obtain ⟨xs, h1, h2⟩ := read_agg 5 Tryd.underlying37 (by kernel_rfl) hv h
  obtain ⟨e, hx, hw, _⟩ := sh_effect h2
  exact ⟨e, by rw [hx] at h1; exact h1, hw⟩
theorem read_two (hv : Value.okWide Tryd.prog w .any base 94 v) (h : DataW.Trod enc Tryd.prog w 0 (fun _ => true) true 94 v d p) : ∃ a b : UInt8, VR (snapAll w) noEnv (.agg [bv a, bv b]) v := by
  obtain ⟨xs, h1, h2⟩ := read_arr 5 Tryd.underlying94 (by kernel_rfl) hv h
  obtain ⟨yss, rfl, hm, hq⟩ := h2.array_inv Tryd.underlying94
  obtain ⟨a0, a1, rfl⟩ := two hm
  obtain ⟨b0, h3⟩ := sh_u8 (hq a0 (by simp))
  obtain ⟨b1, h4⟩ := sh_u8 (hq a1 (by simp))
  refine ⟨b0, b1, ?_⟩
  simpa [wkL_app, h3, h4] using h1
theorem read_i16 (hv : Value.okWide Tryd.prog w .any base 95 v) (h : DataW.Trod enc Tryd.prog w 0 (fun _ => true) true 95 v d p) : ∃ n : Int, VR (snapAll w) noEnv (.int .i16 n) v ∧ -32768 ≤ n ∧ n ≤ 32767 := by
  obtain ⟨n, rfl, _, _, hw⟩ := open_int Tryd.underlying95 hv h
  simp only [Lit.wf, Bool.and_eq_true, decide_eq_true_eq] at hw
  have h1 : IntKind.i16.min = -32768 := by decide
  have h2 : IntKind.i16.max = 32767 := by decide
  rw [h1, h2] at hw
  exact ⟨n, .int _ _ _, hw⟩
end
end Go.Proofs.YtojfnagfafoiaaaDoor
