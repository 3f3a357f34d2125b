/- cpu: instructions that undo each other, plain. No condition. -/
import Derived.Test.YtojfnagfafoiaaaDoorSR
import Derived.Test.YtojfnagfafoiaaaDoorSK
set_option maxRecDepth 100000
set_option linter.unusedVariables false
set_option linter.unusedSimpArgs false
namespace Go.Proofs.YtojfnagfafoiaaaDoor
open Go.AM
/-- The number with some bytes, the lowest one first. -/
def nvL (b : List UInt8) : Int := b.foldr (fun c v => v * 256 + (c.toNat : Int)) 0
theorem rdL_nv : ∀ (b : List UInt8), rdL b = iw .i64 (nvL b)
  | [] => rfl
  | c :: b => by
    have h := rdL_nv b
    have h1 : rdL (c :: b) = bOr .i64 (iw .i64 (rdL b * 256)) (c.toNat : Int) := rfl
    have h2 : nvL (c :: b) = nvL b * 256 + (c.toNat : Int) := rfl
    rw [h1, h2, bOr256 _ (u8_ge c) (u8_lt c), h]
    refine iw_congr ?_
    rw [iwi64]
    omega
theorem b8_nat (v : Int) : ((b8 v).toNat : Int) = v % 256 := by
  rw [b8, UInt8.toNat_ofNat']
  omega
theorem emod256 (v m : Int) (hm : 0 < m) : v % (256 * m) = v / 256 % m * 256 + v % 256 := by
  have h1 : v = (v / 256 % m * 256 + v % 256) + 256 * m * (v / 256 / m) := by
    have e1 := Int.mul_ediv_add_emod v 256
    have e2 := Int.mul_ediv_add_emod (v / 256) m
    have e3 : 256 * m * (v / 256 / m) = 256 * (m * (v / 256 / m)) := Int.mul_assoc _ _ _
    generalize m * (v / 256 / m) = t at *
    omega
  have h2 := Int.emod_nonneg (v / 256) (b := m) (by omega)
  have h3 := Int.emod_lt_of_pos (v / 256) hm
  conv => lhs; rw [h1]
  rw [Int.add_mul_emod_self_left, Int.emod_eq_of_lt (by omega) (by omega)]
theorem nv_st : ∀ (n : Nat) (v : Int), nvL (stL n v) = v % 256 ^ n
  | 0, v => by simp [stL, nvL, Int.emod_one]
  | n + 1, v => by
    have h1 : nvL (stL (n + 1) v) = nvL (stL n (v.fdiv 256)) * 256 + ((b8 v).toNat : Int) := rfl
    rw [h1, nv_st n, b8_nat, Int.fdiv_eq_ediv_of_nonneg _ (by decide), Int.pow_succ, Int.mul_comm (256 ^ n) 256, emod256 _ _ (Int.pow_pos (by decide))]
theorem rd_st {v : Int} (h : I64 v) : rdL (stL 8 v) = v := by
  rw [rdL_nv, nv_st]
  have e : (256 : Int) ^ 8 = 18446744073709551616 := by decide
  rw [e, iwi64]
  unfold I64 at h
  omega
theorem st_nv : ∀ (l : List UInt8), stL l.length (nvL l) = l
  | [] => rfl
  | c :: l => by
    have h2 : nvL (c :: l) = nvL l * 256 + (c.toNat : Int) := rfl
    have h3 := u8_lt c
    have h4 := u8_ge c
    have e1 : (nvL (c :: l)).fdiv 256 = nvL l := by rw [h2, Int.fdiv_eq_ediv_of_nonneg _ (by decide)]; omega
    have e2 : b8 (nvL (c :: l)) = c := by
      apply UInt8.toNat_inj.1
      have := b8_nat (nvL (c :: l))
      rw [h2] at this ⊢
      omega
    rw [List.length_cons, stL, e1, e2, st_nv l]
theorem st_congr : ∀ (n : Nat) (v w : Int), (∃ k, v = w + 256 ^ n * k) → stL n v = stL n w
  | 0, _, _, _ => rfl
  | n + 1, v, w, ⟨k, hk⟩ => by
    have e : (256 : Int) ^ (n + 1) * k = 256 * (256 ^ n * k) := by rw [Int.pow_succ, Int.mul_comm (256 ^ n) 256, Int.mul_assoc]
    rw [e] at hk
    have e1 : b8 v = b8 w := by
      apply UInt8.toNat_inj.1
      have h1 := b8_nat v
      have h2 := b8_nat w
      generalize 256 ^ n * k = m at *
      omega
    have e2 : ∃ k', v.fdiv 256 = w.fdiv 256 + 256 ^ n * k' := ⟨k, by
      rw [Int.fdiv_eq_ediv_of_nonneg _ (by decide), Int.fdiv_eq_ediv_of_nonneg _ (by decide)]
      generalize 256 ^ n * k = m at *
      omega⟩
    rw [stL, stL, e1, st_congr n _ _ e2]
theorem st_rd {l : List UInt8} (h : l.length = 8) : stL 8 (rdL l) = l := by
  have := st_nv l
  rw [h] at this
  conv => rhs; rw [← this]
  refine st_congr 8 _ _ ?_
  have e : (256 : Int) ^ 8 = 18446744073709551616 := by decide
  rw [rdL_nv, iwi64, e]
  exact ⟨-((nvL l + 9223372036854775808) / 18446744073709551616), by omega⟩
/-! ### places -/
theorem alw21 {p : Int} (hp : okP p = true) (h : alw p 2 = true) : alw p 1 = true := by
  unfold okP at hp
  simp only [Bool.or_eq_true, decide_eq_true_eq] at hp
  rcases hp with ((rfl | rfl) | rfl) | rfl <;> revert h <;> decide
theorem flt21 {s : Sp} (hs : s.ok) {pos : Int} : ∀ (m i : Nat), (s.flt pos 2 m i).kind = 0 → (s.flt pos 1 m i).kind = 0
  | 0, i, _ => rfl
  | m + 1, i, h => by
    rw [Sp.flt] at h ⊢
    split at h
    · rename_i h1
      have hx : s.has (iw .i64 (pos + i)) = true := by
        unfold Sp.bad1 at h1
        split at h1
        · assumption
        · cases h1
      obtain ⟨p, _, hp, ho, _, _⟩ := Sp.pm_at hs hx
      have ha : alw p 2 = true := by
        unfold Sp.bad1 at h1
        rw [if_pos hx, hp] at h1
        split at h1
        · assumption
        · cases h1
      rw [bad1_ok hx hp (alw21 ho ha), if_pos rfl]
      exact flt21 hs m (i + 1) h
    · rename_i hb; exact absurd h hb
theorem wr_sub {s : Sp} {p : Nat} {b : List UInt8} (h : p + b.length ≤ s.byt.length) (pos : Int) (hp : pos.toNat = p) : (s.wr p b).sub pos b.length = b := by
  unfold Sp.sub Sp.wr
  rw [hp]
  have e3 : (s.byt.take p).length = p := by simp; omega
  simp only [List.append_assoc]
  rw [List.drop_append_of_le_length (by omega), show (s.byt.take p).drop p = [] by rw [List.drop_eq_nil_iff]; omega, List.nil_append, List.take_append_of_le_length (Nat.le_refl _), List.take_length]
theorem wr_wr {s : Sp} {p : Nat} {b c : List UInt8} (h : p + b.length ≤ s.byt.length) (hc : c.length = b.length) : (s.wr p b).wr p c = s.wr p c := by
  have e : ∀ q : Sp, q.perm = s.perm → (∀ i, q.byt[i]? = (s.wr p c).byt[i]?) → q = s.wr p c := fun q h1 h2 => by
    obtain ⟨qp, qb⟩ := q
    simp only at h1 h2
    subst h1
    rw [List.ext_getElem? h2]
    rfl
  refine e _ rfl fun i => ?_
  have hl : (s.wr p b).byt.length = s.byt.length := by simp [Sp.wr]; omega
  rw [wr_get (by omega), wr_get (by omega), wr_get (d := c) (by omega)]
  split
  · rfl
  · rw [if_neg (by omega)]
theorem wr_self {s : Sp} {p n : Nat} (h : p + n ≤ s.byt.length) (pos : Int) (hp : pos.toNat = p) : s.wr p (s.sub pos n) = s := by
  have hl : (s.sub pos n).length = n := by simp [Sp.sub]; omega
  obtain ⟨sp, sb⟩ := s
  simp only [Sp.wr, Sp.sub, hp] at hl ⊢
  simp only at h
  rw [hl]
  congr 1
  rw [← List.take_add, List.take_append_drop]
/-! ### the instructions -/
theorem exec_nf {x : Ins} {s : Sp} {r : Rg} (h : (exec x s r).trap.kind = 0) : (ffault s (foot x r)).kind = 0 := by
  rcases Decidable.em ((ffault s (foot x r)).kind = 0) with hf | hf
  · exact hf
  · rw [exec_f hf] at h; exact absurd (show (3 : Int) = 0 from h) (by decide)
def xPush (a : Int) : Ins := ⟨30, a, 0, 0⟩
def xPop (a : Int) : Ins := ⟨31, a, 0, 0⟩
def xCall (n : Int) : Ins := ⟨27, 0, 0, n⟩
def xRet : Ins := ⟨29, 0, 0, 0⟩
def xSwap (a b : Int) : Ins := ⟨34, a, b, 0⟩
theorem push_ok {a : Int} (h0 : 0 ≤ a) (h7 : a ≤ 7) : (xPush a).ok := ⟨show isOp 30 = true by decide, h0, h7, show (0 : Int) ≤ 0 by decide, show (0 : Int) ≤ 7 by decide, .inl (show hasA (kform 30) = true by decide), .inr rfl, show fits (kform 30) 0 = true by decide⟩
theorem pop_ok {a : Int} (h0 : 0 ≤ a) (h7 : a ≤ 7) : (xPop a).ok := ⟨show isOp 31 = true by decide, h0, h7, show (0 : Int) ≤ 0 by decide, show (0 : Int) ≤ 7 by decide, .inl (show hasA (kform 31) = true by decide), .inr rfl, show fits (kform 31) 0 = true by decide⟩
theorem ret_ok : xRet.ok := ⟨by decide, by decide, by decide, by decide, by decide, .inr rfl, .inr rfl, by decide⟩
theorem call_ok {n : Int} (h0 : -8192 ≤ n) (h1 : n < 8192) : (xCall n).ok := ⟨show isOp 27 = true by decide, show (0 : Int) ≤ 0 by decide, show (0 : Int) ≤ 7 by decide, show (0 : Int) ≤ 0 by decide, show (0 : Int) ≤ 7 by decide, .inr rfl, .inr rfl, by
  have e : kform (27 : Int) = 6 := by decide
  show fits (kform 27) n = true
  rw [e]
  simp [fits, bytesOf, h0, h1]⟩
theorem swap_ok {a b : Int} (h0 : 0 ≤ a) (h7 : a ≤ 7) (g0 : 0 ≤ b) (g7 : b ≤ 7) : (xSwap a b).ok := ⟨show isOp 34 = true by decide, h0, h7, g0, g7, .inl (show hasA (kform 34) = true by decide), .inl (show hasB (kform 34) = true by decide), show fits (kform 34) 0 = true by decide⟩
theorem exec_push {a : Int} {s : Sp} {r : Rg} (hf : (ffault s (foot (xPush a) r)).kind = 0) :
    exec (xPush a) s r = ⟨{ r with r7 := iw .i64 (r.r7 - 8), pc := iw .i64 (r.pc + (xPush a).len) }, iw .i64 (r.r7 - 8), stL 8 (r.get a), ⟨0, 0, ⟨0, 0⟩⟩, xPush a⟩ := by
  unfold exec
  rw [eff_ok hf]
  simp [xPush, isAlu, tabR, Res.eff, Pr.setA, Pr.toPc, Pr.p1, Pr.start, Pr.set7]
theorem exec_pop {a : Int} {s : Sp} {r : Rg} (hf : (ffault s (foot (xPop a) r)).kind = 0) :
    exec (xPop a) s r = ⟨({ r with r7 := iw .i64 (r.r7 + 8), pc := iw .i64 (r.pc + (xPop a).len) } : Rg).set a (rdL (s.sub r.r7 8)), 0, [], ⟨0, 0, ⟨0, 0⟩⟩, xPop a⟩ := by
  unfold exec
  rw [eff_ok hf]
  simp [xPop, isAlu, tabR, Res.eff, Pr.setA, Pr.toPc, Pr.p1, Pr.start, Pr.set7]
theorem exec_call {n : Int} {s : Sp} {r : Rg} (hf : (ffault s (foot (xCall n) r)).kind = 0) :
    exec (xCall n) s r = ⟨{ r with r7 := iw .i64 (r.r7 - 8), pc := iw .i64 (iw .i64 (r.pc + (xCall n).len) + n) }, iw .i64 (r.r7 - 8), stL 8 (iw .i64 (r.pc + (xCall n).len)), ⟨0, 0, ⟨0, 0⟩⟩, xCall n⟩ := by
  unfold exec
  rw [eff_ok hf]
  simp [xCall, isAlu, tabR, Res.eff, Pr.setA, Pr.toPc, Pr.p1, Pr.start, Pr.set7]
theorem exec_ret {s : Sp} {r : Rg} (hf : (ffault s (foot xRet r)).kind = 0) :
    exec xRet s r = ⟨{ r with r7 := iw .i64 (r.r7 + 8), pc := rdL (s.sub r.r7 8) }, 0, [], ⟨0, 0, ⟨0, 0⟩⟩, xRet⟩ := by
  unfold exec
  rw [eff_ok hf]
  simp [xRet, isAlu, tabR, Res.eff, Pr.setA, Pr.toPc, Pr.p1, Pr.start, Pr.set7]
theorem exec_swap {a b : Int} {s : Sp} {r : Rg} (hf : (ffault s (foot (xSwap a b) r)).kind = 0) :
    exec (xSwap a b) s r = ⟨({ r with pc := iw .i64 (r.pc + (xSwap a b).len) } : Rg).set a (rdL (s.sub (r.get b) 8)), r.get b, stL 8 (r.get a), ⟨0, 0, ⟨0, 0⟩⟩, xSwap a b⟩ := by
  unfold exec
  rw [eff_ok hf]
  simp [xSwap, isAlu, tabR, Res.eff, Pr.setA, Pr.toPc, Pr.p1, Pr.start, Pr.set7]
theorem flt_same' {s t : Sp} (hp : t.perm = s.perm) (hl : t.byt.length = s.byt.length) (pos perm : Int) : ∀ (m i : Nat), t.flt pos perm m i = s.flt pos perm m i
  | 0, _ => rfl
  | m + 1, i => by
    have e : ∀ x, t.bad1 perm x = s.bad1 perm x := fun x => by unfold Sp.bad1 Sp.has Sp.pm; rw [hp, hl]
    rw [Sp.flt, Sp.flt, e, flt_same' hp hl pos perm m (i + 1)]
theorem ffault_same' {s t : Sp} (hp : t.perm = s.perm) (hl : t.byt.length = s.byt.length) : ∀ (l : List Acc), ffault t l = ffault s l
  | [] => rfl
  | a :: l => by rw [ffault, ffault, flt_same' hp hl, ffault_same' hp hl l]
theorem get_setv' {r : Rg} {a v i : Int} (h0 : 0 ≤ i) (h7 : i < 8) : (r.set a v).get i = if a = i then v else r.get i := by
  have : i = 0 ∨ i = 1 ∨ i = 2 ∨ i = 3 ∨ i = 4 ∨ i = 5 ∨ i = 6 ∨ i = 7 := by omega
  rcases this with rfl | rfl | rfl | rfl | rfl | rfl | rfl | rfl <;> simp [Rg.get, Rg.set, Rg.list]
theorem ff_one {s : Sp} {a : Acc} : ffault s [a] = if (s.flt a.pos a.perm a.size.toNat 0).kind = 0 then ⟨0, 0⟩ else s.flt a.pos a.perm a.size.toNat 0 := rfl
theorem wr_flt (s : Sp) {p : Nat} {b : List UInt8} (h : p + b.length ≤ s.byt.length) (pos perm : Int) (m i : Nat) : (s.wr p b).flt pos perm m i = s.flt pos perm m i :=
  flt_same' (s := s) (t := s.wr p b) rfl (by simp [Sp.wr]; omega) pos perm m i
theorem iw8 {v : Int} (h : I64 v) : iw .i64 (iw .i64 (v - 8) + 8) = v := by
  rw [iwi64, iwi64]
  unfold I64 at h
  omega
theorem pushed_pop {a b : Int} (b0 : 0 ≤ b) (b6 : b ≤ 6) {s : Sp} (hs : s.ok) {r : Rg} (hr : r.wf) (h : (exec (xPush a) s r).trap.kind = 0) {e : Eff} (he : exec (xPush a) s r = e) :
    ∃ f, exec (xPop b) (s.wr e.pos.toNat e.data) e.rg = f ∧ f.trap.kind = 0 ∧ f.rg.get b = r.get a ∧ f.rg.get 7 = r.get 7 := by
  have hf := exec_nf h
  rw [exec_push hf] at he
  subst he
  have hfl : (s.flt (iw .i64 (r.r7 - 8)) 2 8 0).kind = 0 := by
    have : foot (xPush a) r = [⟨iw .i64 (r.r7 - 8), 8, true⟩] := by simp [foot, xPush]
    rw [this] at hf
    exact ffault0 hf ⟨iw .i64 (r.r7 - 8), 8, true⟩ (by simp)
  have hbl := bytl hs
  obtain ⟨p0, p1⟩ := (flt_in (perm := 0) (iw_I64 (r.r7 - 8)) (by omega) 8 0 (by omega) (by omega) (.inr rfl) (flt_perm0 _ _ hfl)).resolve_left (by omega)
  have hle : (iw .i64 (r.r7 - 8)).toNat + (stL 8 (r.get a)).length ≤ s.byt.length := by rw [stL_len]; omega
  have hf2 : (ffault (s.wr (iw .i64 (r.r7 - 8)).toNat (stL 8 (r.get a))) (foot (xPop b) { r with r7 := iw .i64 (r.r7 - 8), pc := iw .i64 (r.pc + (xPush a).len) })).kind = 0 := by
    have : foot (xPop b) { r with r7 := iw .i64 (r.r7 - 8), pc := iw .i64 (r.pc + (xPush a).len) } = [⟨iw .i64 (r.r7 - 8), 8, false⟩] := by simp [foot, xPop]
    rw [this, ff_one, wr_flt s hle]
    have h1 := flt21 hs 8 0 hfl
    have e2 : (Acc.mk (iw .i64 (r.r7 - 8)) 8 false).perm = 1 := rfl
    have e3 : (8 : Int).toNat = 8 := rfl
    simp only [e2, e3]
    rw [if_pos h1]
  refine ⟨_, exec_pop hf2, rfl, ?_, ?_⟩
  · have hw := wr_sub hle (iw .i64 (r.r7 - 8)) rfl
    rw [stL_len] at hw
    simp only
    rw [get_setv' b0 (by omega), if_pos rfl, hw, rd_st (hr.get a)]
  · simp only
    rw [get_setv' (by decide) (by decide), if_neg (by omega)]
    exact iw8 (hr.reg _ (by simp [Rg.list]))
theorem called_ret {n : Int} {s : Sp} (hs : s.ok) {r : Rg} (hr : r.wf) (h : (exec (xCall n) s r).trap.kind = 0) {e : Eff} (he : exec (xCall n) s r = e) :
    ∃ f, exec xRet (s.wr e.pos.toNat e.data) e.rg = f ∧ f.trap.kind = 0 ∧ f.rg = { r with pc := iw .i64 (r.pc + (xCall n).len) } := by
  have hf := exec_nf h
  rw [exec_call hf] at he
  subst he
  have hfl : (s.flt (iw .i64 (r.r7 - 8)) 2 8 0).kind = 0 := by
    have : foot (xCall n) r = [⟨iw .i64 (r.r7 - 8), 8, true⟩] := by simp [foot, xCall]
    rw [this] at hf
    exact ffault0 hf ⟨iw .i64 (r.r7 - 8), 8, true⟩ (by simp)
  have hbl := bytl hs
  obtain ⟨p0, p1⟩ := (flt_in (perm := 0) (iw_I64 (r.r7 - 8)) (by omega) 8 0 (by omega) (by omega) (.inr rfl) (flt_perm0 _ _ hfl)).resolve_left (by omega)
  have hle : (iw .i64 (r.r7 - 8)).toNat + (stL 8 (iw .i64 (r.pc + (xCall n).len))).length ≤ s.byt.length := by rw [stL_len]; omega
  have hf2 : (ffault (s.wr (iw .i64 (r.r7 - 8)).toNat (stL 8 (iw .i64 (r.pc + (xCall n).len)))) (foot xRet { r with r7 := iw .i64 (r.r7 - 8), pc := iw .i64 (iw .i64 (r.pc + (xCall n).len) + n) })).kind = 0 := by
    have : foot xRet { r with r7 := iw .i64 (r.r7 - 8), pc := iw .i64 (iw .i64 (r.pc + (xCall n).len) + n) } = [⟨iw .i64 (r.r7 - 8), 8, false⟩] := by simp [foot, xRet]
    rw [this, ff_one, wr_flt s hle]
    have h1 := flt21 hs 8 0 hfl
    have e2 : (Acc.mk (iw .i64 (r.r7 - 8)) 8 false).perm = 1 := rfl
    have e3 : (8 : Int).toNat = 8 := rfl
    simp only [e2, e3]
    rw [if_pos h1]
  refine ⟨_, exec_ret hf2, rfl, ?_⟩
  have hw := wr_sub hle (iw .i64 (r.r7 - 8)) rfl
  rw [stL_len] at hw
  simp only
  rw [hw, rd_st (iw_I64 _), iw8 (hr.reg _ (by simp [Rg.list]))]
theorem set_self' {r : Rg} {a : Int} (h0 : 0 ≤ a) (h7 : a < 8) {v : Int} : ((r.set a v).set a (r.get a)) = r := by
  rcases cases8 h0 (by omega) with rfl | rfl | rfl | rfl | rfl | rfl | rfl | rfl <;> rfl
theorem swapped {a b : Int} (a0 : 0 ≤ a) (a6 : a ≤ 6) (b0 : 0 ≤ b) (b6 : b ≤ 6) (hab : ¬ a = b) {s : Sp} (hs : s.ok) {r : Rg} (hr : r.wf) (h : (exec (xSwap a b) s r).trap.kind = 0) {e : Eff} (he : exec (xSwap a b) s r = e) :
    ∃ f, exec (xSwap a b) (s.wr e.pos.toNat e.data) e.rg = f ∧ f.trap.kind = 0 ∧ (∃ p, f.rg = { r with pc := p }) ∧ (s.wr e.pos.toNat e.data).wr f.pos.toNat f.data = s := by
  have hf := exec_nf h
  rw [exec_swap hf] at he
  subst he
  have hI := hr.get b
  have e0 : iw .i64 (r.get b) = r.get b := by unfold I64 at hI; exact iw64 (by omega) (by omega)
  have hft : ∀ q : Rg, q.get b = r.get b → foot (xSwap a b) q = [⟨r.get b, 8, false⟩, ⟨r.get b, 8, true⟩] := fun q hq => by simp [foot, xSwap, hq, e0]
  rw [hft r rfl] at hf
  have hfl : (s.flt (r.get b) 1 8 0).kind = 0 := ffault0 hf ⟨r.get b, 8, false⟩ (by simp)
  have hfl2 : (s.flt (r.get b) 2 8 0).kind = 0 := ffault0 hf ⟨r.get b, 8, true⟩ (by simp)
  have hbl := bytl hs
  obtain ⟨p0, p1⟩ := (flt_in (perm := 0) hI (by omega) 8 0 (by omega) (by omega) (.inr rfl) (flt_perm0 _ _ hfl)).resolve_left (by omega)
  have hle : (r.get b).toNat + (stL 8 (r.get a)).length ≤ s.byt.length := by rw [stL_len]; omega
  have hgb : (({ r with pc := iw .i64 (r.pc + (xSwap a b).len) } : Rg).set a (rdL (s.sub (r.get b) 8))).get b = r.get b := by
    rw [get_setv' b0 (by omega), if_neg hab]; rfl
  have hga : (({ r with pc := iw .i64 (r.pc + (xSwap a b).len) } : Rg).set a (rdL (s.sub (r.get b) 8))).get a = rdL (s.sub (r.get b) 8) := by
    rw [get_setv' a0 (by omega), if_pos rfl]
  have hf2 : (ffault (s.wr (r.get b).toNat (stL 8 (r.get a))) (foot (xSwap a b) (({ r with pc := iw .i64 (r.pc + (xSwap a b).len) } : Rg).set a (rdL (s.sub (r.get b) 8))))).kind = 0 := by
    rw [hft _ hgb, ffault_same' (s := s) (t := s.wr (r.get b).toNat (stL 8 (r.get a))) rfl (by simp [Sp.wr]; omega)]
    exact hf
  have hsl : (s.sub (r.get b) 8).length = 8 := by simp [Sp.sub]; omega
  refine ⟨_, exec_swap hf2, rfl, ⟨iw .i64 (iw .i64 (r.pc + (xSwap a b).len) + (xSwap a b).len), ?_⟩, ?_⟩
  · have hw := wr_sub hle (r.get b) rfl
    rw [stL_len] at hw
    simp only
    rw [hgb, hw, rd_st (hr.get a)]
    have := @set_self' { r with pc := iw .i64 (iw .i64 (r.pc + (xSwap a b).len) + (xSwap a b).len) } a a0 (by omega) (rdL (s.sub (r.get b) 8))
    exact this
  · simp only
    rw [hgb, hga, st_rd hsl, wr_wr hle (by rw [hsl, stL_len])]
    exact wr_self (by omega) _ rfl
end Go.Proofs.YtojfnagfafoiaaaDoor
