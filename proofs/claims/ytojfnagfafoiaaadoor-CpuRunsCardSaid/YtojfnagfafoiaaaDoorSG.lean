/- cpu: an instruction at another address; the statement CpuMoved. No condition. -/
import Derived.Test.YtojfnagfafoiaaaDoorSG1
set_option maxRecDepth 100000
set_option linter.unusedVariables false
set_option linter.unusedSimpArgs false
namespace Go.Proofs.YtojfnagfafoiaaaDoor
open Go.AM
def Rg.at' (r : Rg) (v : Int) : Rg := { r with pc := v }
def Eff.at' (e : Eff) (v : Int) : Eff := { e with rg := e.rg.at' v }
theorem get_at (r : Rg) (v i : Int) : (r.at' v).get i = r.get i := rfl
theorem at_r0 (r : Rg) (v : Int) : (r.at' v).r0 = r.r0 := rfl
theorem at_r1 (r : Rg) (v : Int) : (r.at' v).r1 = r.r1 := rfl
theorem at_r2 (r : Rg) (v : Int) : (r.at' v).r2 = r.r2 := rfl
theorem at_r3 (r : Rg) (v : Int) : (r.at' v).r3 = r.r3 := rfl
theorem at_r4 (r : Rg) (v : Int) : (r.at' v).r4 = r.r4 := rfl
theorem at_r5 (r : Rg) (v : Int) : (r.at' v).r5 = r.r5 := rfl
theorem at_r6 (r : Rg) (v : Int) : (r.at' v).r6 = r.r6 := rfl
theorem at_r7 (r : Rg) (v : Int) : (r.at' v).r7 = r.r7 := rfl
theorem at_pc (r : Rg) (v : Int) : (r.at' v).pc = v := rfl
theorem eff_at (e : Eff) (v : Int) : e.at' v = ⟨⟨e.rg.r0, e.rg.r1, e.rg.r2, e.rg.r3, e.rg.r4, e.rg.r5, e.rg.r6, e.rg.r7, v⟩, e.pos, e.data, e.trap, e.x⟩ := rfl
theorem foot_at (x : Ins) (r : Rg) (v : Int) : foot x (r.at' v) = foot x r := rfl
theorem taken_at (x : Ins) (r : Rg) (v : Int) : taken x (r.at' v) = taken x r := rfl
theorem iw_sw (p l b : Int) : iw .i64 (iw .i64 (p + b) + l) = iw .i64 (iw .i64 (p + l) + b) := by
  refine (iw_congr (y := p + b + l) ?_).trans (iw_congr ?_)
  · rw [iwi64]; omega
  · rw [iwi64]; omega
theorem eff_ok {x : Ins} {s : Sp} {r : Rg} (hf : (ffault s (foot x r)).kind = 0) : effect x s r =
    (if isAlu x.op = true then (match alu x.op (r.get x.a) (r.get x.b) with
    | none => .tr ⟨5, 0, ⟨0, 0⟩⟩ (Pr.p1 x s r)
    | some v => .ok ((Pr.p1 x s r).setA v) [])
  else if 21 ≤ x.op ∧ x.op ≤ 25 then .ok (if taken x r = true then (Pr.p1 x s r).toPc (iw .i64 ((Pr.p1 x s r).next + x.imm)) else Pr.p1 x s r) []
  else if x.op = 26 then .ok ((Pr.p1 x s r).toPc (r.get x.a)) []
  else tabR (Pr.p1 x s r)) := by
  unfold effect
  rw [if_neg (by simp [hf])]
  cases alu x.op (r.get x.a) (r.get x.b) <;> rfl
theorem mv_plain {x : Ins} {s : Sp} {r : Rg} (hx : x.ok) (hrel : x.rel = false) (d : Int) :
    exec x s (r.at' (iw .i64 (r.pc + d))) = (exec x s r).at' (if taken x r = true ∧ (exec x s r).trap.kind = 0 then (exec x s r).rg.pc else iw .i64 ((exec x s r).rg.pc + d)) := by
  by_cases hf : (ffault s (foot x r)).kind = 0
  · have ho := ops35 hx.op
    have hb : (isBr x.op || decide (x.op = 28)) = false := by simpa [Ins.rel, hx] using hrel
    have hsw := iw_sw r.pc x.len d
    have hsw2 : iw .i64 ((r.at' (iw .i64 (r.pc + d))).pc + x.len) = iw .i64 (iw .i64 (r.pc + x.len) + d) := hsw
    have hf' : (ffault s (foot x (r.at' (iw .i64 (r.pc + d))))).kind = 0 := hf
    unfold exec
    rw [eff_ok hf, eff_ok hf']
    simp only [get_at, taken_at]
    rw [eff_at]
    obtain ⟨op, a, b, imm⟩ := x
    simp only at ho hb
    rcases ho with rfl | rfl | rfl | rfl | rfl | rfl | rfl | rfl | rfl | rfl | rfl | rfl | rfl | rfl | rfl | rfl | rfl | rfl | rfl | rfl | rfl | rfl | rfl | rfl | rfl | rfl | rfl | rfl | rfl | rfl | rfl | rfl | rfl | rfl | rfl
    all_goals first
      | (simp [isBr] at hb; done)
      | skip
    all_goals simp [isAlu, tabR, Res.eff, Pr.setA, Rg.set, Pr.toPc, Pr.p1, Pr.start, Pr.set7, get_at, at_r0, at_r1, at_r2, at_r3, at_r4, at_r5, at_r6, at_r7, at_pc, hsw, taken]
    all_goals first
      | rfl
      | (refine ⟨?_, ?_, ?_, ?_, ?_, ?_, ?_, ?_⟩ <;> rfl)
      | (generalize alu _ _ _ = v
         cases v <;> simp [hsw, at_pc, get_at] <;> first
           | rfl
           | (refine ⟨?_, ?_, ?_, ?_, ?_, ?_, ?_, ?_⟩ <;> rfl))
  · have hf' : ¬ (ffault s (foot x (r.at' (iw .i64 (r.pc + d))))).kind = 0 := hf
    rw [exec_f hf, exec_f hf', foot_at]
    simp [Eff.at', Rg.at']
theorem iw_I64 (n : Int) : I64 (iw .i64 n) := by unfold I64; rw [iwi64]; omega
end Go.Proofs.YtojfnagfafoiaaaDoor
