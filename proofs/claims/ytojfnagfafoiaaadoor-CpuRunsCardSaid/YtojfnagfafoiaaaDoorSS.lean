/- cpu: the registers that an instruction leaves are numbers of their type, plain. No condition. -/
import Derived.Test.YtojfnagfafoiaaaDoorSO
import Derived.Test.YtojfnagfafoiaaaDoorSG
set_option maxRecDepth 100000
set_option linter.unusedVariables false
set_option linter.unusedSimpArgs false
namespace Go.Proofs.YtojfnagfafoiaaaDoor
open Go.AM
theorem wI (n : Int) : I64 (iw .i64 n) := by unfold I64; rw [iwi64]; omega
theorem fdiv_I64 {a : Int} (ha : I64 a) (k : Nat) : I64 (a.fdiv (2 ^ k)) := by
  have hm : (0 : Int) < 2 ^ k := Int.pow_pos (by decide)
  rw [Int.fdiv_eq_ediv_of_nonneg _ (by omega)]
  generalize (2 : Int) ^ k = m at *
  unfold I64 at ha ⊢
  refine ⟨?_, ?_⟩
  · rw [Int.le_ediv_iff_mul_le hm]
    omega
  · have : a / m < 9223372036854775808 := by
      rw [Int.ediv_lt_iff_lt_mul hm]
      omega
    omega
theorem alu_I64 {op a b v : Int} (ha : I64 a) (h : alu op a b = some v) : I64 v := by
  unfold alu at h
  repeat' split at h
  all_goals first
    | (cases h; done)
    | (injection h with h
       subst h
       first
         | exact wI _
         | exact tmod_i64 ha
         | exact fdiv_I64 ha _)
theorem rw_set {r : Rg} (h : r.wf) {a v : Int} (hv : I64 v) : (r.set a v).wf := by
  refine ⟨fun x hx => ?_, h.pc⟩
  have h1 := h.reg
  simp only [Rg.set, Rg.list, List.mem_cons, List.not_mem_nil, or_false] at hx h1
  rcases hx with rfl | rfl | rfl | rfl | rfl | rfl | rfl | rfl <;> (split <;> first | exact hv | exact h1 _ (by simp))
theorem rw_pc {r : Rg} (h : r.wf) {v : Int} (hv : I64 v) : ({ r with pc := v } : Rg).wf := ⟨h.reg, hv⟩
theorem rw_7 {r : Rg} (h : r.wf) {v w : Int} (hv : I64 v) (hw : I64 w) : ({ r with r7 := v, pc := w } : Rg).wf := by
  refine ⟨fun x hx => ?_, hw⟩
  have h1 := h.reg
  simp only [Rg.list, List.mem_cons, List.not_mem_nil, or_false] at hx h1
  rcases hx with rfl | rfl | rfl | rfl | rfl | rfl | rfl | rfl <;> first | exact hv | exact h1 _ (by simp)
theorem rdI : ∀ (b : List UInt8), I64 (rdL b)
  | [] => ⟨by decide, by decide⟩
  | c :: b => wI _
theorem exec_wf {x : Ins} (hx : x.ok) (him : I64 x.imm) {s : Sp} {r : Rg} (hr : r.wf) : (exec x s r).rg.wf := by
  by_cases hf : (ffault s (foot x r)).kind = 0
  · have ho := ops35 hx.op
    have hal2 : ∀ v, alu x.op (r.get x.a) (r.get x.b) = some v → I64 v := fun v => alu_I64 (hr.get _)
    have hga := hr.get x.a
    have hgb := hr.get x.b
    unfold exec
    rw [eff_ok hf]
    obtain ⟨op, a, b, imm⟩ := x
    simp only at ho hal2 him hga hgb
    cases hal : alu op (r.get a) (r.get b)
    all_goals cases htk : taken ⟨op, a, b, imm⟩ r
    all_goals rcases ho with rfl | rfl | rfl | rfl | rfl | rfl | rfl | rfl | rfl | rfl | rfl | rfl | rfl | rfl | rfl | rfl | rfl | rfl | rfl | rfl | rfl | rfl | rfl | rfl | rfl | rfl | rfl | rfl | rfl | rfl | rfl | rfl | rfl | rfl | rfl
    all_goals simp [isAlu, tabR, Res.eff, Pr.setA, Pr.toPc, Pr.p1, Pr.start, Pr.set7, hal, htk]
    all_goals first
      | exact hr
      | exact rw_pc hr (wI _)
      | exact rw_pc hr hga
      | exact rw_set (rw_pc hr (wI _)) (hal2 _ hal)
      | exact rw_set (rw_pc hr (wI _)) him
      | exact rw_set (rw_pc hr (wI _)) (wI _)
      | exact rw_set (rw_pc hr (wI _)) hgb
      | exact rw_set (rw_pc hr (wI _)) (rdI _)
      | exact rw_7 hr (wI _) (wI _)
      | exact rw_7 hr (wI _) hga
      | exact rw_7 hr (wI _) (rdI _)
      | exact rw_set (rw_7 hr (wI _) (wI _)) (rdI _)
      | skip
  · rw [exec_f hf]
    exact hr
theorem immL_I64 (b : List UInt8) (v : Int) (hv : I64 v) : I64 (immL b v) := by
  cases b with
  | nil => exact hv
  | cons c b => exact wI _
theorem decB_imm {b : List UInt8} {op a b' : Int} {k : Nat} (h : (decB b op a b' k).e = 0) : I64 (decB b op a b' k).x.imm := by
  unfold decB at h ⊢
  split
  · refine immL_I64 _ _ ?_
    unfold imm0
    split <;> exact ⟨by decide, by decide⟩
  · rename_i hs; rw [if_neg hs] at h; exact absurd h hs
theorem dec_imm {b : List UInt8} (he : (dec b).e = 0) : I64 (dec b).x.imm := by
  rcases b with _ | ⟨b0, rest⟩
  · cases he
  unfold dec at he ⊢
  simp only at he ⊢
  repeat' split at he
  all_goals first
    | (cases he; done)
    | (simp only [*, if_true, if_false] at he ⊢
       exact decB_imm he)
    | skip
theorem step_wf {s : Sp} {r : Rg} (hr : r.wf) : (step s r).rg.wf := by
  unfold step
  split
  · rename_i h; exact exec_wf (dec_ok h) (dec_imm h) hr
  · split <;> exact hr
end Go.Proofs.YtojfnagfafoiaaaDoor
