/- cpu: effects of instructions can be applied, plain. No condition. -/
import Derived.Test.YtojfnagfafoiaaaDoorSO
import Derived.Test.YtojfnagfafoiaaaDoorSH
set_option maxRecDepth 100000
set_option linter.unusedVariables false
set_option linter.unusedSimpArgs false
namespace Go.Proofs.YtojfnagfafoiaaaDoor
open Go.AM
theorem stEo {s : Sp} (hs : s.ok) (r : Rg) : stE s r = step s r := if_pos hs
theorem chkn {s : Sp} (hs : ¬ s.ok) : s.chk = 30 := if_neg hs
theorem fits0 {s : Sp} {e : Eff} (h1 : e.data = []) (h2 : e.pos = 0) : Fits s e :=
  ⟨by rw [h1]; decide, fun _ => h2, fun h => by rw [h1] at h; exact absurd h (by decide), by rw [h1]; rfl⟩
theorem exec_fits {x : Ins} (hx : x.ok) {s : Sp} {r : Rg} (hr : r.wf) : Fits s (exec x s r) := by
  have hF := frame (x := x) (s := s) (r := r) hx hr
  by_cases hd : (exec x s r).data = []
  · exact fits0 hd (hF.pos0 hd)
  · obtain ⟨a, ha, hw, hp, hsz⟩ := hF.acc hd
    have hs8 := foot_size x r a ha
    have hlen : 0 < (exec x s r).data.length := List.length_pos_iff.2 hd
    refine ⟨by omega, fun h => absurd (List.length_eq_zero_iff.1 h) hd, fun _ => ?_, ?_⟩
    · rcases Decidable.em ((exec x s r).trap.kind = 0) with h | h
      · exact h
      · exact absurd (hF.dat h) hd
    · by_cases hf : (ffault s (foot x r)).kind = 0
      · have := ffault0 hf a ha
        rw [Acc.perm, if_pos hw, hp, hsz] at this
        simpa using this
      · rw [exec_f hf] at hd
        exact absurd rfl hd
theorem step_fits {s : Sp} {r : Rg} (hr : r.wf) : Fits s (step s r) := by
  unfold step
  split
  · rename_i h; exact exec_fits (dec_ok h) hr
  · split
    · exact fits0 rfl rfl
    · exact fits0 rfl rfl
theorem fits_in {s : Sp} (hs : s.ok) {e : Eff} (hp : I64 e.pos) (h : Fits s e) : e.data.length = 0 ∨ (0 ≤ e.pos ∧ e.pos + e.data.length ≤ s.byt.length) := by
  have hbl := bytl hs
  have h8 := h.len
  rcases flt_in (perm := 0) hp (by omega) e.data.length 0 (by omega) (by omega) (.inr rfl) (flt_perm0 _ _ h.flt) with h | h
  · exact .inl h
  · exact .inr ⟨h.1, by have := h.2; omega⟩
theorem appl_ok {s : Sp} (hs : s.ok) {e : Eff} (hp : I64 e.pos) (h : Fits s e) : (s.wr e.pos.toNat e.data).ok := by
  rcases fits_in hs hp h with h0 | ⟨h0, h1⟩
  · rw [List.length_eq_zero_iff.1 h0, wr_nil]; exact hs
  · exact wr_ok hs (by omega)
theorem appl_len {s : Sp} (hs : s.ok) {e : Eff} (hp : I64 e.pos) (h : Fits s e) : (s.wr e.pos.toNat e.data).byt.length = s.byt.length := by
  rcases fits_in hs hp h with h0 | ⟨h0, h1⟩
  · rw [List.length_eq_zero_iff.1 h0, wr_nil]
  · simp [Sp.wr]; omega
theorem wr_get {s : Sp} {p : Nat} {d : List UInt8} (h : p + d.length ≤ s.byt.length) (i : Nat) : (s.wr p d).byt[i]? = if p ≤ i ∧ i < p + d.length then d[i - p]? else s.byt[i]? := by
  simp only [Sp.wr, List.append_assoc]
  rw [List.getElem?_append]
  have e3 : (s.byt.take p).length = p := by simp; omega
  rw [e3]
  split
  · rw [if_neg (by omega), List.getElem?_take, if_pos (by omega)]
  · rw [List.getElem?_append]
    split
    · rw [if_pos (by omega)]
    · rw [if_neg (by omega), List.getElem?_drop]
      congr 1
      omega
end Go.Proofs.YtojfnagfafoiaaaDoor
