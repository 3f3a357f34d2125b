/- cpu: a byte of a space replaced. No condition. -/
import Derived.Test.YtojfnagfafoiaaaDoorSI
set_option maxRecDepth 100000
set_option linter.unusedVariables false
set_option linter.unusedSimpArgs false
namespace Go.Proofs.YtojfnagfafoiaaaDoor
open Go.AM
def Sp.put (s : Sp) (k : Nat) (c : UInt8) : Sp := ⟨s.perm, s.byt.set k c⟩
theorem put_has (s : Sp) (k : Nat) (c : UInt8) (x : Int) : (s.put k c).has x = s.has x := by simp [Sp.has, Sp.put]
theorem put_pm (s : Sp) (k : Nat) (c : UInt8) (x : Int) : (s.put k c).pm x = s.pm x := rfl
theorem put_bad1 (s : Sp) (k : Nat) (c : UInt8) (p x : Int) : (s.put k c).bad1 p x = s.bad1 p x := by unfold Sp.bad1; rw [put_has, put_pm]
theorem put_flt (s : Sp) (k : Nat) (c : UInt8) (pos p : Int) : ∀ (m i : Nat), (s.put k c).flt pos p m i = s.flt pos p m i
  | 0, _ => rfl
  | m + 1, i => by rw [Sp.flt, Sp.flt, put_bad1, put_flt s k c pos p m (i + 1)]
theorem put_ffault (s : Sp) (k : Nat) (c : UInt8) : ∀ (l : List Acc), ffault (s.put k c) l = ffault s l
  | [] => rfl
  | a :: l => by rw [ffault, ffault, put_flt, put_ffault s k c l]
theorem put_ok {s : Sp} {k : Nat} {c : UInt8} (h : s.ok) : (s.put k c).ok := ⟨h.p32, by simp [Sp.put, h.len], h.all⟩
theorem byt_len {s : Sp} (h : s.ok) : s.byt.length ≤ 2048 := by have := h.p32; have := h.len; omega
theorem fet_put (s : Sp) (hs : s.ok) (k : Nat) (c : UInt8) (pos : Int) (h0 : 0 ≤ pos) (h1 : pos ≤ 2048) : ∀ (m i : Nat), i + m ≤ 12 →
    (s.put k c).fet pos m i = if pos + i ≤ k then (s.fet pos m i).set ((k : Int) - pos - i).toNat c else s.fet pos m i
  | 0, i, _ => by simp [fet_zero]
  | m + 1, i, hm => by
    have e : iw .i64 (pos + i) = pos + i := iw64 (by omega) (by omega)
    rw [fet_succ, fet_succ, put_has, put_pm, e]
    by_cases hc : s.has (pos + i) = true ∧ s.pm (pos + i) = 4
    · rw [if_pos hc, if_pos hc, fet_put s hs k c pos h0 h1 m (i + 1) (by omega)]
      obtain ⟨b, b1, b2, b3⟩ := Sp.byt_at hc.1
      have hb : (s.put k c).byt[(pos + i).toNat]? = if k = (pos + i).toNat then some c else some b := by
        simp only [Sp.put, List.getElem?_set]
        by_cases hk : k = (pos + i).toNat
        · rw [if_pos hk, if_pos hk, if_pos (by omega)]
        · rw [if_neg hk, if_neg hk, b1]
      rw [hb, b1]
      rcases Int.lt_trichotomy (k : Int) (pos + i) with hk | hk | hk
      · rw [if_neg (by omega), if_neg (by omega), if_neg (by omega)]
      · rw [if_pos (by omega), if_neg (by omega), if_pos (by omega), show ((k : Int) - pos - i).toNat = 0 by omega]
        rfl
      · obtain ⟨t, ht⟩ : ∃ t, ((k : Int) - pos - i).toNat = t + 1 := ⟨((k : Int) - pos - i).toNat - 1, by omega⟩
        rw [if_neg (by omega), if_pos (by omega), if_pos (by omega), ht, show ((k : Int) - pos - ((i + 1 : Nat) : Int)).toNat = t by omega]
        rfl
    · rw [if_neg hc, if_neg hc]; simp
/-! ### decoding -/
theorem scan_set (wide : Bool) (b : List UInt8) (n j : Nat) (c : UInt8) : ∀ (m i : Nat), j < i ∨ i + m ≤ j → scan wide (b.set j c) n m i = scan wide b n m i
  | 0, _, _ => rfl
  | m + 1, i, h => by
    rw [scan, scan, List.getElem?_set_ne (by omega), scan_set wide b n j c m (i + 1) (by omega)]
theorem scan_bad (wide : Bool) (b : List UInt8) (n j : Nat) (c : UInt8) (hc : 128 ≤ (c.toNat : Int)) : ∀ (m i : Nat), scan wide b n m i = 20 → scan wide (b.set j c) n m i = 20
  | 0, _, h => by cases h
  | m + 1, i, h => by
    rw [scan] at h ⊢
    by_cases hj : j = i
    · subst hj
      cases hb : b[j]? with
      | none => rw [hb] at h; cases h
      | some d =>
        rw [List.getElem?_set_self (List.getElem?_eq_some_iff.1 hb).1]
        simp only
        rw [if_pos (.inl hc)]
    · rw [List.getElem?_set_ne hj]
      cases hb : b[i]? with
      | none => rw [hb] at h; cases h
      | some d =>
        rw [hb] at h
        simp only at h ⊢
        split at h
        · rename_i h1; rw [if_pos h1]
        · rename_i h1; rw [if_neg h1]; exact scan_bad wide b n j c hc m (i + 1) h
theorem take_set {α : Type} {l : List α} {n j : Nat} {c : α} (h : n ≤ j) : (l.set j c).take n = l.take n := by
  apply List.ext_getElem?
  intro i
  rw [List.getElem?_take, List.getElem?_take]
  split
  · rw [List.getElem?_set_ne (by omega)]
  · rfl
theorem decB_set {b : List UInt8} {op a b' : Int} {k j : Nat} {c : UInt8} (hk : k ≤ flen (kform op)) (hj : flen (kform op) ≤ j) : decB (b.set j c) op a b' k = decB b op a b' k := by
  unfold decB
  rw [scan_set _ _ _ _ _ _ _ (.inr (by omega)), take_set hj]
theorem decB_bad {b : List UInt8} {op a b' : Int} {k j : Nat} {c : UInt8} (hc : 128 ≤ (c.toNat : Int)) (h : (decB b op a b' k).e = 20) : (decB (b.set j c) op a b' k).e = 20 := by
  unfold decB at h ⊢
  split at h
  · cases h
  · rename_i hs
    have h2 := scan_bad (decide (kform op = 3)) b (flen (kform op)) j c hc _ _ (show scan _ b _ _ k = 20 from h)
    rw [if_neg (by rw [h2]; decide)]
    exact h2
theorem decB_n {b : List UInt8} {op a b' : Int} {k : Nat} (h : (decB b op a b' k).e = 0) : (decB b op a b' k).n = flen (kform op) := by
  unfold decB at h ⊢
  split
  · rfl
  · rename_i hs; rw [if_neg hs] at h; exact absurd h hs
theorem dec_set {b : List UInt8} {j : Nat} {c : UInt8} (he : (dec b).e = 0) (hj : (dec b).n ≤ j) : dec (b.set j c) = dec b := by
  rcases b with _ | ⟨b0, rest⟩
  · cases he
  rw [dec_cons] at he hj
  by_cases ho : isOp ((b0.toNat : Int) - 128) = true
  · rw [if_pos ho] at he hj
    have hsp := flen_split (kform ((b0.toNat : Int) - 128))
    by_cases hA : hasA (kform ((b0.toNat : Int) - 128)) = true
    · rw [if_pos hA] at he hj hsp
      rcases rest with _ | ⟨b1, rest⟩
      · cases he
      · simp only at he hj
        by_cases hB : hasB (kform ((b0.toNat : Int) - 128)) = true
        · rw [if_pos hB] at he hj
          by_cases h64 : 64 ≤ (b1.toNat : Int)
          · rw [if_pos h64] at he; cases he
          · rw [if_neg h64] at he hj
            rw [decB_n he] at hj
            obtain ⟨t, rfl⟩ : ∃ t, j = t + 2 := ⟨j - 2, by omega⟩
            show dec (b0 :: b1 :: rest.set t c) = _
            rw [dec_cons, dec_cons, if_pos ho, if_pos ho, if_pos hA, if_pos hA]
            simp only
            rw [if_pos hB, if_pos hB, if_neg h64, if_neg h64]
            exact decB_set (b := b0 :: b1 :: rest) (j := t + 2) (by omega) hj
        · rw [if_neg hB] at he hj
          by_cases h64 : 8 ≤ (b1.toNat : Int)
          · rw [if_pos h64] at he; cases he
          · rw [if_neg h64] at he hj
            rw [decB_n he] at hj
            obtain ⟨t, rfl⟩ : ∃ t, j = t + 2 := ⟨j - 2, by omega⟩
            show dec (b0 :: b1 :: rest.set t c) = _
            rw [dec_cons, dec_cons, if_pos ho, if_pos ho, if_pos hA, if_pos hA]
            simp only
            rw [if_neg hB, if_neg hB, if_neg h64, if_neg h64]
            exact decB_set (b := b0 :: b1 :: rest) (j := t + 2) (by omega) hj
    · rw [if_neg hA] at he hj hsp
      rw [decB_n he] at hj
      obtain ⟨t, rfl⟩ : ∃ t, j = t + 1 := ⟨j - 1, by omega⟩
      show dec (b0 :: rest.set t c) = _
      rw [dec_cons, dec_cons, if_pos ho, if_pos ho, if_neg hA, if_neg hA]
      exact decB_set (b := b0 :: rest) (j := t + 1) (by omega) hj
  · rw [if_neg ho] at he; cases he
theorem dec_bad {b : List UInt8} {j : Nat} {c : UInt8} (hc : 128 ≤ (c.toNat : Int)) (h1 : 1 ≤ j) (he : (dec b).e = 20) : (dec (b.set j c)).e = 20 := by
  rcases b with _ | ⟨b0, rest⟩
  · cases he
  obtain ⟨t, rfl⟩ : ∃ t, j = t + 1 := ⟨j - 1, by omega⟩
  show (dec (b0 :: rest.set t c)).e = 20
  rw [dec_cons] at he ⊢
  by_cases ho : isOp ((b0.toNat : Int) - 128) = true
  · rw [if_pos ho] at he ⊢
    by_cases hA : hasA (kform ((b0.toNat : Int) - 128)) = true
    · rw [if_pos hA] at he ⊢
      rcases rest with _ | ⟨b1, rest⟩
      · cases he
      · simp only at he
        cases t with
        | zero =>
          simp only [List.set_cons_zero]
          by_cases hB : hasB (kform ((b0.toNat : Int) - 128)) = true
          · rw [if_pos hB, if_pos (by omega)]; rfl
          · rw [if_neg hB, if_pos (by omega)]; rfl
        | succ t =>
          simp only [List.set_cons_succ]
          by_cases hB : hasB (kform ((b0.toNat : Int) - 128)) = true
          · rw [if_pos hB] at he ⊢
            by_cases h64 : 64 ≤ (b1.toNat : Int)
            · rw [if_pos h64]; rfl
            · rw [if_neg h64] at he ⊢
              exact decB_bad (b := b0 :: b1 :: rest) (j := t + 2) hc he
          · rw [if_neg hB] at he ⊢
            by_cases h64 : 8 ≤ (b1.toNat : Int)
            · rw [if_pos h64]; rfl
            · rw [if_neg h64] at he ⊢
              exact decB_bad (b := b0 :: b1 :: rest) (j := t + 2) hc he
    · rw [if_neg hA] at he ⊢
      exact decB_bad (b := b0 :: rest) (j := t + 1) hc he
  · rw [if_neg ho]; rfl
theorem dec204 (t : List UInt8) : (dec (204 :: t)).e = 0 ∧ (dec (204 :: t)).x.op = 76 := ⟨rfl, rfl⟩
theorem exec_x (x : Ins) (s : Sp) (r : Rg) : (exec x s r).x = x := by unfold exec; cases effect x s r <;> rfl
theorem exec_brk {x : Ins} (hx : x.op = 76) (s : Sp) (r : Rg) : (exec x s r).trap.kind = 2 ∧ (exec x s r).rg = r := by
  have hf : foot x r = [] := by unfold foot; simp [hx]
  unfold exec
  rw [eff_ok (by rw [hf]; rfl)]
  simp [hx, isAlu, tabR, Pr.p1, Pr.toPc, Pr.start, Res.eff]
/-! ### what is read -/
theorem flt_all {s : Sp} {pos p : Int} : ∀ (m i : Nat), (s.flt pos p m i).kind = 0 → ∀ j, i ≤ j → j < i + m → (s.bad1 p (iw .i64 (pos + j))).kind = 0
  | 0, i, _, j, h1, h2 => by omega
  | m + 1, i, h, j, h1, h2 => by
    rw [Sp.flt] at h
    split at h
    · rename_i hb
      rcases Nat.eq_or_lt_of_le h1 with rfl | h3
      · exact hb
      · exact flt_all m (i + 1) h j h3 (by omega)
    · rename_i hb; exact absurd h hb
theorem sub_put {s : Sp} (hs : s.ok) {k : Nat} {c : UInt8} (hk : s.pm k = 4) {pos : Int} (hpos : I64 pos) {n : Nat} (hn : n ≤ 8) (hf : (s.flt pos 1 n 0).kind = 0) : (s.put k c).sub pos n = s.sub pos n := by
  rcases Nat.eq_zero_or_pos n with rfl | h0
  · simp [Sp.sub]
  have hin := (flt_in hpos (byt_len hs) n 0 (by omega) (by omega) (.inr rfl) hf).resolve_left (by omega)
  have hl := byt_len hs
  have hout : ¬ (pos ≤ k ∧ (k : Int) < pos + n) := fun h => by
    have := flt_all n 0 hf (k - pos.toNat) (by omega) (by omega)
    rw [show pos + ((k - pos.toNat : Nat) : Int) = k by omega, iw64 (by omega) (by omega)] at this
    unfold Sp.bad1 at this
    rw [hk] at this
    split at this
    · split at this
      · rename_i h2; exact absurd h2 (by decide)
      · cases this
    · cases this
  unfold Sp.sub Sp.put
  apply List.ext_getElem?
  intro i
  simp only [List.getElem?_take, List.getElem?_drop]
  split
  · rw [List.getElem?_set_ne (by omega)]
  · rfl
theorem exec_put {x : Ins} (hx : x.ok) {s : Sp} (hs : s.ok) {k : Nat} {c : UInt8} (hk : s.pm k = 4) {r : Rg} (hr : r.wf) : exec x (s.put k c) r = exec x s r := by
  by_cases hf : (ffault s (foot x r)).kind = 0
  · have hf' : (ffault (s.put k c) (foot x r)).kind = 0 := by rw [put_ffault]; exact hf
    have hsub : ∀ a ∈ foot x r, a.write = false → I64 a.pos → a.size ≤ 8 → (s.put k c).sub a.pos a.size.toNat = s.sub a.pos a.size.toNat := fun a ha hw hp h8 => by
      have := ffault0 hf a ha
      have hpe : a.perm = 1 := by rw [Acc.perm, if_neg (by simp [hw])]
      rw [hpe] at this
      exact sub_put hs hk hp (by omega) this
    have ho := ops35 hx.op
    have him := swap_imm hx
    have hI := fun n => iw_I64 n
    have h7 : I64 r.r7 := hr.reg _ (by simp [Rg.list])
    have hb : I64 (r.get x.b) := hr.get _
    have s17 : x.op = 17 → (s.put k c).sub (iw .i64 (r.get x.b + x.imm)) 1 = s.sub (iw .i64 (r.get x.b + x.imm)) 1 := fun h => hsub ⟨iw .i64 (r.get x.b + x.imm), 1, false⟩ (by simp [foot, h]) rfl (hI _) (show (1 : Int) ≤ 8 by decide)
    have s18 : x.op = 18 → (s.put k c).sub (iw .i64 (r.get x.b + x.imm)) 8 = s.sub (iw .i64 (r.get x.b + x.imm)) 8 := fun h => hsub ⟨iw .i64 (r.get x.b + x.imm), 8, false⟩ (by simp [foot, h]) rfl (hI _) (show (8 : Int) ≤ 8 by decide)
    have s7 : x.op = 29 ∨ x.op = 31 → (s.put k c).sub r.r7 8 = s.sub r.r7 8 := fun h => hsub ⟨r.r7, 8, false⟩ (by rcases h with h | h <;> simp [foot, h]) rfl h7 (show (8 : Int) ≤ 8 by decide)
    have s34 : x.op = 34 → (s.put k c).sub (r.get x.b) 8 = s.sub (r.get x.b) 8 := fun h => by
      have e : iw .i64 (r.get x.b + x.imm) = r.get x.b := by rw [him h, Int.add_zero]; unfold I64 at hb; exact iw64 (by omega) (by omega)
      have := hsub ⟨iw .i64 (r.get x.b + x.imm), 8, false⟩ (by simp [foot, h]) rfl (hI _) (show (8 : Int) ≤ 8 by decide)
      rw [e] at this
      exact this
    clear hsub him
    unfold exec
    rw [eff_ok hf, eff_ok hf']
    obtain ⟨op, a, b, imm⟩ := x
    simp only at ho s17 s18 s7 s34
    cases hal : alu op (r.get a) (r.get b)
    all_goals cases htk : taken ⟨op, a, b, imm⟩ r
    all_goals rcases ho with rfl | rfl | rfl | rfl | rfl | rfl | rfl | rfl | rfl | rfl | rfl | rfl | rfl | rfl | rfl | rfl | rfl | rfl | rfl | rfl | rfl | rfl | rfl | rfl | rfl | rfl | rfl | rfl | rfl | rfl | rfl | rfl | rfl | rfl | rfl
    all_goals simp at s17 s18 s7 s34
    all_goals simp [isAlu, tabR, Res.eff, Pr.setA, Pr.toPc, Pr.p1, Pr.start, Pr.set7, hal, htk, s17, s18, s7, s34]
  · have hf' : ¬ (ffault (s.put k c) (foot x r)).kind = 0 := by rw [put_ffault]; exact hf
    rw [exec_f hf, exec_f hf', put_ffault]
end Go.Proofs.YtojfnagfafoiaaaDoor

set_option maxRecDepth 100000
set_option linter.unusedVariables false
set_option linter.unusedSimpArgs false
namespace Go.Proofs.YtojfnagfafoiaaaDoor
open Go.AM
theorem pc0 {r : Rg} (hr : r.wf) : iw .i64 (r.pc + (0 : Nat)) = r.pc := by have := hr.pc; unfold I64 at this; rw [iw64] <;> omega
theorem step_at {s : Sp} (hs : s.ok) {k : Nat} (hk : k < s.byt.length) (h4 : s.pm k = 4) {r : Rg} (hr : r.wf) (he : (k : Int) = r.pc) : (step (s.put k 204) r).trap.kind = 2 ∧ (step (s.put k 204) r).rg = r := by
  have hl := byt_len hs
  have hh : s.has r.pc = true := by rw [← he]; simp [Sp.has]; omega
  have hb : ∃ t, (s.put k 204).fet r.pc 12 0 = 204 :: t := by
    rw [fet_put s hs k 204 r.pc (by omega) (by omega) 12 0 (by omega), if_pos (by omega), fet_succ s r.pc 11 0, pc0 hr, if_pos ⟨hh, by rw [← he]; exact h4⟩, show ((k : Int) - r.pc - (0 : Nat)).toNat = 0 by omega]
    exact ⟨_, rfl⟩
  obtain ⟨t, ht⟩ := hb
  unfold step
  rw [ht, if_pos (dec204 t).1]
  exact exec_brk (dec204 t).2 _ _
theorem step_put {s : Sp} (hs : s.ok) {k : Nat} (hk : k < s.byt.length) (h4 : s.pm k = 4) {r : Rg} (hr : r.wf) (hne : ¬ (k : Int) = r.pc)
    (g0 : (dec (s.fet r.pc 12 0)).e = 0 → ¬ (r.pc < k ∧ iw .i64 (k - r.pc) < (dec (s.fet r.pc 12 0)).n)) (g1 : (dec (s.fet r.pc 12 0)).e = 21 → ¬ (r.pc < k ∧ iw .i64 (k - r.pc) < 12)) : step (s.put k 204) r = step s r := by
  have hl := byt_len hs
  have same : (s.put k 204).fet r.pc 12 0 = s.fet r.pc 12 0 → step (s.put k 204) r = step s r := fun h => by
    unfold step
    rw [h, put_flt]
    split
    · rename_i h1; exact exec_put (dec_ok h1) hs h4 hr
    · rfl
  by_cases hh : s.has r.pc = true
  · have h2 := hh
    simp [Sp.has] at h2
    have hf := fet_put s hs k 204 r.pc (by omega) (by omega) 12 0 (by omega)
    rcases Int.lt_or_le (k : Int) r.pc with hlt | hle
    · exact same (by rw [hf, if_neg (by omega)])
    · rw [if_pos (by omega)] at hf
      have hw : iw .i64 ((k : Int) - r.pc) = k - r.pc := iw64 (by omega) (by omega)
      have hbl := s.fet_len r.pc 12 0
      rw [hw] at g0 g1
      obtain ⟨j, hj⟩ : ∃ j : Nat, (k : Int) - r.pc = j := ⟨((k : Int) - r.pc).toNat, by omega⟩
      rw [show ((k : Int) - r.pc - (0 : Nat)).toNat = j by omega] at hf
      rcases dec_e (s.fet r.pc 12 0) with he | he | he
      · have hd : dec ((s.fet r.pc 12 0).set j 204) = dec (s.fet r.pc 12 0) := dec_set he (by have := g0 he; omega)
        unfold step
        rw [hf, hd, if_pos he, if_pos he]
        exact exec_put (dec_ok he) hs h4 hr
      · have hd : (dec ((s.fet r.pc 12 0).set j 204)).e = 20 := dec_bad (by decide) (by omega) he
        unfold step
        rw [hf, hd, he]
        rfl
      · refine same ?_
        rw [hf, List.set_eq_of_length_le (by have := g1 he; omega)]
  · refine same ?_
    rw [fet_succ _ r.pc 11 0, fet_succ _ r.pc 11 0, pc0 hr, put_has, if_neg (fun h => hh h.1), if_neg (fun h => hh h.1)]
theorem step_x {s : Sp} {r : Rg} : ((dec (s.fet r.pc 12 0)).e = 0 → (step s r).x = (dec (s.fet r.pc 12 0)).x) ∧ ((dec (s.fet r.pc 12 0)).e = 21 → (step s r).x = x0 ∧ (step s r).trap.kind = 3) ∧ ((dec (s.fet r.pc 12 0)).e = 20 → (step s r).x = x0 ∧ (step s r).trap.kind = 4) := by
  refine ⟨fun h => ?_, fun h => ?_, fun h => ?_⟩ <;> unfold step
  · rw [if_pos h, exec_x]
  · rw [h]; exact ⟨rfl, rfl⟩
  · rw [h]; exact ⟨rfl, rfl⟩
theorem fz_r1 {r sz : Nat} {xs : List (List AV)} (l : List Int) : (l.map r1).map (fun row => row.map (AV.fz r sz xs)) = l.map r1 := by simp [AV.fz, Function.comp]
theorem fz_rb {r sz : Nat} {xs : List (List AV)} (l : List UInt8) : (l.map rb).map (fun row => row.map (AV.fz r sz xs)) = l.map rb := by simp [AV.fz, Function.comp]
theorem take_r1 (l : List Int) : (l.map r1).take l.length = l.map r1 := List.take_of_length_le (by simp)
theorem take_rb (l : List UInt8) {n : Nat} (h : l.length = n) : (l.map rb).take n = l.map rb := List.take_of_length_le (by simp [h])
/-- A call, of a space in two own blocks that stay as they are from here on. -/
theorem own2 {P : Program} {f : FuncId} {A B : List AV} (hA : ltL 0 A = true) (hB : ltL 0 B = true) {p : List Int} {b : List UInt8} {m : Nat} (hm : b.length = m) {ra : List AV} (hra : ltL 0 ra = true) {v : AV} (hv : v.lt 0 = true)
    (hc : ACalls P f [.agg [.view false 1 (p.map r1), .view false 1 (b.map rb)], .agg ra] [] (fun o H => o = .ret v ∧ H = [])) :
    ACalls P f [.agg [.sl 2 0 p.length none, .sl 3 0 m none], .agg ra] [.rows 11 [A], .rows 19 [B], .rows 1 (p.map r1), .rows 1 (b.map rb), .rows 2 [[.sl 2 0 p.length none, .sl 3 0 m none]]]
      (fun o H2 => o = .ret v ∧ H2 = [.rows 11 [A], .rows 19 [B], .dead, .dead, .rows 2 [[.view false 1 (p.map r1), .view false 1 (b.map rb)]]]) := by
  have fA : ∀ r sz xs, A.map (AV.fz r sz xs) = A := fun r sz xs => by
    conv => rhs; rw [← List.map_id' A]
    exact List.map_congr_left fun a ha => fz_pure (ltL_mem hA a ha)
  have fB : ∀ r sz xs, B.map (AV.fz r sz xs) = B := fun r sz xs => by
    conv => rhs; rw [← List.map_id' B]
    exact List.map_congr_left fun a ha => fz_pure (ltL_mem hB a ha)
  have fR : ∀ r sz xs, fzL r sz xs ra = ra := fun r sz xs => by
    rw [fzL_map]
    conv => rhs; rw [← List.map_id' ra]
    exact List.map_congr_left fun a ha => fz_pure (ltL_mem hra a ha)
  have okL : ∀ {l : List AV} (r n : Nat), ltL 0 l = true → fzOkL r n l := fun {l} r n h => by
    have : (Blk.rows 1 [l]).fzOk r n := bfzOk_pure (by simpa using h)
    simpa [Blk.fzOk] using this
  refine ACalls.pre_fz 2 rfl (r1_pure p) (by simp [fzOkL, AV.fzOk]; exact okL _ _ hra) ?_ ?_
  · simp [Blk.fzOk, fzOkL, AV.fzOk]
    exact ⟨okL _ _ hA, okL _ _ hB⟩
  have e : ((([.rows 11 [A], .rows 19 [B], .rows 1 (p.map r1), .rows 1 (b.map rb), .rows 2 [[.sl 2 0 p.length none, .sl 3 0 m none]]] : Heap).set 2 .dead).map (Blk.fz 2 1 (p.map r1))) = [.rows 11 [A], .rows 19 [B], .dead, .rows 1 (b.map rb), .rows 2 [[.view false 1 (p.map r1), .sl 3 0 m none]]] := by
    simp only [List.set_cons_zero, List.set_cons_succ, List.map_cons, List.map_nil, Blk.fz, fA, fB, fz_rb, AV.fz, take_r1, List.drop_zero, if_true]
    rfl
  rw [e]
  have ea : fzL 2 1 (p.map r1) [.agg [.sl 2 0 p.length none, .sl 3 0 m none], .agg ra] = [.agg [.view false 1 (p.map r1), .sl 3 0 m none], .agg ra] := by
    simp only [fzL, AV.fz, take_r1, List.drop_zero, if_true, fR]
    rfl
  rw [ea]
  refine ACalls.pre_fz 3 rfl (rb_pure b) (by simp [fzOkL, AV.fzOk, hm]; exact okL _ _ hra) ?_ ?_
  · simp [Blk.fzOk, fzOkL, AV.fzOk, hm]
    exact ⟨okL _ _ hA, okL _ _ hB⟩
  have e : ((([.rows 11 [A], .rows 19 [B], .dead, .rows 1 (b.map rb), .rows 2 [[.view false 1 (p.map r1), .sl 3 0 m none]]] : Heap).set 3 .dead).map (Blk.fz 3 1 (b.map rb))) = [.rows 11 [A], .rows 19 [B], .dead, .dead, .rows 2 [[.view false 1 (p.map r1), .view false 1 (b.map rb)]]] := by
    simp only [List.set_cons_zero, List.set_cons_succ, List.map_cons, List.map_nil, Blk.fz, fA, fB, AV.fz, take_rb b hm, List.drop_zero, if_true]
  rw [e]
  have ea : fzL 3 1 (b.map rb) [.agg [.view false 1 (p.map r1), .sl 3 0 m none], .agg ra] = [.agg [.view false 1 (p.map r1), .view false 1 (b.map rb)], .agg ra] := by
    simp only [fzL, AV.fz, take_rb b hm, List.drop_zero, if_true, fR]
  rw [ea]
  exact hc.pure_use (by simp [ltL, AV.lt, hra]) hv
theorem decB_len {b : List UInt8} {op a b' : Int} {k : Nat} (h : (decB b op a b' k).e = 0) : (decB b op a b' k).n = (decB b op a b' k).x.len := by
  unfold decB at h ⊢
  split
  · rfl
  · rename_i hs; rw [if_neg hs] at h; exact absurd h hs
theorem dec_n {b : List UInt8} (he : (dec b).e = 0) : (dec b).n = (dec b).x.len := by
  rcases b with _ | ⟨b0, rest⟩
  · cases he
  rw [dec_cons] at he ⊢
  by_cases ho : isOp ((b0.toNat : Int) - 128) = true
  · rw [if_pos ho] at he ⊢
    by_cases hA : hasA (kform ((b0.toNat : Int) - 128)) = true
    · rw [if_pos hA] at he ⊢
      rcases rest with _ | ⟨b1, rest⟩
      · cases he
      · simp only at he ⊢
        by_cases hB : hasB (kform ((b0.toNat : Int) - 128)) = true
        · rw [if_pos hB] at he ⊢
          by_cases h64 : 64 ≤ (b1.toNat : Int)
          · rw [if_pos h64] at he; cases he
          · rw [if_neg h64] at he ⊢; exact decB_len he
        · rw [if_neg hB] at he ⊢
          by_cases h64 : 8 ≤ (b1.toNat : Int)
          · rw [if_pos h64] at he; cases he
          · rw [if_neg h64] at he ⊢; exact decB_len he
    · rw [if_neg hA] at he ⊢; exact decB_len he
  · rw [if_neg ho] at he; cases he
theorem x0_no : ¬ x0.ok := fun h => by have := h.op; revert this; decide
theorem CpuBreaks_c (s : Sp) (r : Rg) (hr : r.wf) (n : Int) (n0 : 0 ≤ n) (n1 : n ≤ 65535) :
    ACalls Tryd.prog 4 [.agg (.view false 1 (s.perm.map r1) :: .view false 1 (s.byt.map rb) :: r.cells), .int .u16 n] [] (fun o H => o = .ret (.bool true) ∧ H = []) := by
  refine ACalls.up ?_
  refine ACalls.intro (cs := []) (n := 149) Tryd.func4 rfl rfl rfl (by kernel_rfl) rfl ?_
  generalize hpost : (fun (o : Out) (H : Heap) => o = Out.ret (.bool true) ∧ H = []) = post
  have fin : ∀ H, Up 0 post (.ret (.bool true)) H := fun H => finv rfl (by rw [← hpost]; exact ⟨rfl, rfl⟩) H
  simp only [go_sem, Nat.reduceAdd, Nat.reduceSub, Nat.reduceMul, Nat.reduceEqDiff, Nat.reduceLeDiff, Nat.reduceLT, ↓reduceIte, Int.reduceToNat, reduceCtorEq, Int.cast_ofNat_Int, Int.reduceLT, Int.reduceLE, Int.reduceGT, Int.reduceGE, Int.reduceEq, Int.reduceNe, Int.reduceNeg, Int.reduceAdd, Int.reduceSub, Int.le_refl, Rg.cells]
  refine rK_use (enters_of Tryd.func16 rfl (by decide)) (ACalls.pure_use (sane_c) rfl rfl) ?_
  have en : iw .i64 n = n := iw64 (by omega) (by omega)
  simp only [go_sem, Nat.reduceAdd, Nat.reduceSub, Nat.reduceMul, Nat.reduceEqDiff, Nat.reduceLeDiff, Nat.reduceLT, ↓reduceIte, Int.reduceToNat, reduceCtorEq, Int.cast_ofNat_Int, Int.reduceLT, Int.reduceLE, Int.reduceGT, Int.reduceGE, Int.reduceEq, Int.reduceNe, Int.reduceNeg, Int.reduceAdd, Int.reduceSub, Int.le_refl, en]
  refine rK_use (enters_of Tryd.func18 rfl (by decide)) (ACalls.pure_use (Step_a s r hr) rfl (by simp [AV.lt, ltL, Eff.av_lt])) ?_
  by_cases hs : s.ok
  rotate_left
  · rw [chk1 hs]
    simp only [go_sem, Nat.reduceAdd, Nat.reduceSub, Nat.reduceMul, Nat.reduceEqDiff, Nat.reduceLeDiff, Nat.reduceLT, ↓reduceIte, Int.reduceToNat, reduceCtorEq, Int.cast_ofNat_Int, Int.reduceLT, Int.reduceLE, Int.reduceGT, Int.reduceGE, Int.reduceEq, Int.reduceNe, Int.reduceNeg, Int.reduceAdd, Int.reduceSub, Int.le_refl, Eff.av, Eff.cells, Eff.cellsD]
    exact fin _
  rw [chk0 hs, stE1 hs]
  rcases Decidable.em (s.perm = []) with hp | hp
  · simp only [go_sem, Nat.reduceAdd, Nat.reduceSub, Nat.reduceMul, Nat.reduceEqDiff, Nat.reduceLeDiff, Nat.reduceLT, ↓reduceIte, Int.reduceToNat, reduceCtorEq, Int.cast_ofNat_Int, Int.reduceLT, Int.reduceLE, Int.reduceGT, Int.reduceGE, Int.reduceEq, Int.reduceNe, Int.reduceNeg, Int.reduceAdd, Int.reduceSub, Int.le_refl, Eff.av, Eff.cells, Eff.cellsD, hp, List.length_map]
    exact fin _
  have hpl : ¬ (s.perm.length : Int) = 0 := fun h => hp (List.length_eq_zero_iff.1 (by omega))
  have hbl : ¬ (s.byt.length : Int) = 0 := by have := hs.len; omega
  have hl := byt_len hs
  have h6 := hs.p32
  obtain ⟨k, hk⟩ : ∃ k : Nat, n.tmod s.byt.length = k := ⟨(n.tmod s.byt.length).toNat, by have := Int.tmod_nonneg (s.byt.length : Int) n0; omega⟩
  have hkl : k < s.byt.length := by have := Int.tmod_lt_of_pos n (b := (s.byt.length : Int)) (by omega); omega
  have hh : s.has k = true := by simp [Sp.has]; omega
  obtain ⟨p, k1, k2, k3, k4, k5⟩ := Sp.pm_at hs hh
  have e2 : iw .i64 ((k : Int).tdiv 64) = (k : Int).tdiv 64 := iw64 (by omega) (by omega)
  have hstep := step_x (s := s) (r := r)
  have hat := fun h => step_at hs hkl h (r := r) hr
  have hput := fun h => step_put hs hkl h (r := r) hr
  have hS' := Step_a (s.put k 204) r hr
  rw [stE1 (put_ok hs), chk0 (put_ok hs)] at hS'
  generalize step s r = e at *
  generalize step (s.put k 204) r = e' at *
  simp only [go_sem, Nat.reduceAdd, Nat.reduceSub, Nat.reduceMul, Nat.reduceEqDiff, Nat.reduceLeDiff, Nat.reduceLT, ↓reduceIte, Int.reduceToNat, reduceCtorEq, Int.cast_ofNat_Int, Int.reduceLT, Int.reduceLE, Int.reduceGT, Int.reduceGE, Int.reduceEq, Int.reduceNe, Int.reduceNeg, Int.reduceAdd, Int.reduceSub, Int.le_refl, Eff.av, Eff.cells, Eff.cellsD, hpl, hbl, hk, e2, k1, k4, k5, List.length_map, List.getElem?_map]
  rcases Decidable.em (p = 4) with h4 | h4
  rotate_left
  · simp only [go_sem, Nat.reduceAdd, Nat.reduceSub, Nat.reduceMul, Nat.reduceEqDiff, Nat.reduceLeDiff, Nat.reduceLT, ↓reduceIte, Int.reduceToNat, reduceCtorEq, Int.cast_ofNat_Int, Int.reduceLT, Int.reduceLE, Int.reduceGT, Int.reduceGE, Int.reduceEq, Int.reduceNe, Int.reduceNeg, Int.reduceAdd, Int.reduceSub, Int.le_refl, h4]
    exact fin _
  subst h4
  simp only [go_sem, Nat.reduceAdd, Nat.reduceSub, Nat.reduceMul, Nat.reduceEqDiff, Nat.reduceLeDiff, Nat.reduceLT, ↓reduceIte, Int.reduceToNat, reduceCtorEq, Int.cast_ofNat_Int, Int.reduceLT, Int.reduceLE, Int.reduceGT, Int.reduceGE, Int.reduceEq, Int.reduceNe, Int.reduceNeg, Int.reduceAdd, Int.reduceSub, Int.le_refl]
  refine drawG [.rows 1 (s.perm.map r1), .rows 1 (s.byt.map rb)] [.gn 1 0 1, .qu 0 1, .qu 0 1, .rd 0 1, .gm 2 0 1, .gn 1 0 1, .qu 0 1, .qu 0 1, .rd 0 1, .gm 3 0 1, .qu 0 1, .mn 0, .mn 1] (by kernel_rfl) (by kernel_rfl) (by kernel_rfl) ?_
  simp only [go_sem, Nat.reduceAdd, Nat.reduceSub, Nat.reduceMul, Nat.reduceEqDiff, Nat.reduceLeDiff, Nat.reduceLT, ↓reduceIte, Int.reduceToNat, reduceCtorEq, Int.cast_ofNat_Int, Int.reduceLT, Int.reduceLE, Int.reduceGT, Int.reduceGE, Int.reduceEq, Int.reduceNe, Int.reduceNeg, Int.reduceAdd, Int.reduceSub, Int.le_refl]
  refine y_gm (b := .rows 1 (s.perm.map r1)) (len := s.perm.length) ?_ rfl trivial ?_
  · exact ⟨rfl, rfl, .inl (by kernel_rfl), by simp; omega, of_decide_eq_true (by kernel_rfl), by kernel_rfl, rfl, by simp⟩
  simp only [go_sem, Nat.reduceAdd, Nat.reduceSub, Nat.reduceMul, Nat.reduceEqDiff, Nat.reduceLeDiff, Nat.reduceLT, ↓reduceIte, Int.reduceToNat, reduceCtorEq, Int.cast_ofNat_Int, Int.reduceLT, Int.reduceLE, Int.reduceGT, Int.reduceGE, Int.reduceEq, Int.reduceNe, Int.reduceNeg, Int.reduceAdd, Int.reduceSub, Int.le_refl]
  refine y_gm (b := .rows 1 (s.byt.map rb)) (len := s.byt.length) ?_ rfl trivial ?_
  · exact ⟨rfl, rfl, .inl (by kernel_rfl), by simp; omega, of_decide_eq_true (by kernel_rfl), by kernel_rfl, rfl, by simp⟩
  obtain ⟨y, hy⟩ := at_lt (l := s.byt) (i := k) hkl
  have g1 : (0 : Int) ≤ k ∧ (k : Int) < s.byt.length := ⟨by omega, by omega⟩
  have eset : (s.byt.map rb).set k [.int .u8 204] = (s.put k 204).byt.map rb := by rw [Sp.put, List.map_set]; rfl
  simp only [go_sem, Nat.reduceAdd, Nat.reduceSub, Nat.reduceMul, Nat.reduceEqDiff, Nat.reduceLeDiff, Nat.reduceLT, ↓reduceIte, Int.reduceToNat, reduceCtorEq, Int.cast_ofNat_Int, Int.reduceLT, Int.reduceLE, Int.reduceGT, Int.reduceGE, Int.reduceEq, Int.reduceNe, Int.reduceNeg, Int.reduceAdd, Int.reduceSub, Int.le_refl, List.length_map, g1, hkl, hy, List.getElem?_map, eset]
  refine rK_use (enters_of Tryd.func18 rfl (by decide)) (own2 (by simp [ltL, AV.lt]) (by simp [ltL, AV.lt]) (by simp [Sp.put]) (by simp [ltL, AV.lt]) (by simp [AV.lt, ltL, Eff.av_lt]) hS') ?_
  simp only [go_sem, Nat.reduceAdd, Nat.reduceSub, Nat.reduceMul, Nat.reduceEqDiff, Nat.reduceLeDiff, Nat.reduceLT, ↓reduceIte, Int.reduceToNat, reduceCtorEq, Int.cast_ofNat_Int, Int.reduceLT, Int.reduceLE, Int.reduceGT, Int.reduceGE, Int.reduceEq, Int.reduceNe, Int.reduceNeg, Int.reduceAdd, Int.reduceSub, Int.le_refl, Eff.av, Eff.cells, Eff.cellsD]
  rcases Decidable.em ((k : Int) = r.pc) with hpc | hpc
  · obtain ⟨q1, q2⟩ := hat k2 hpc
    clear hat hput hS'
    obtain ⟨g, po, da, ⟨tk, tn, f⟩, y2⟩ := e'
    simp only at q1 q2
    subst q1 q2
    simp only [go_sem, Nat.reduceAdd, Nat.reduceSub, Nat.reduceMul, Nat.reduceEqDiff, Nat.reduceLeDiff, Nat.reduceLT, ↓reduceIte, Int.reduceToNat, reduceCtorEq, Int.cast_ofNat_Int, Int.reduceLT, Int.reduceLE, Int.reduceGT, Int.reduceGE, Int.reduceEq, Int.reduceNe, Int.reduceNeg, Int.reduceAdd, Int.reduceSub, Int.le_refl, eq_true hpc]
    exact fin _
  replace hput := hput k2 hpc
  clear hat hS'
  obtain ⟨s0, s21, s20⟩ := hstep
  rcases dec_e (s.fet r.pc 12 0) with he | he | he
  · have hx := dec_ok he
    have hxe := s0 he
    have hn := dec_n he
    generalize (dec (s.fet r.pc 12 0)).x = x at *
    subst hxe
    simp only [go_sem, Nat.reduceAdd, Nat.reduceSub, Nat.reduceMul, Nat.reduceEqDiff, Nat.reduceLeDiff, Nat.reduceLT, ↓reduceIte, Int.reduceToNat, reduceCtorEq, Int.cast_ofNat_Int, Int.reduceLT, Int.reduceLE, Int.reduceGT, Int.reduceGE, Int.reduceEq, Int.reduceNe, Int.reduceNeg, Int.reduceAdd, Int.reduceSub, Int.le_refl, eq_false hpc]
    refine rK_use (enters_of Tryd.func24 rfl (by decide)) (ACalls.pure_use (ilen_c e.x hx) rfl rfl) ?_
    rcases Decidable.em (r.pc < k) with c1 | c1
    · rcases Decidable.em (iw .i64 (k - r.pc) < e.x.len) with c2 | c2
      · simp only [go_sem, Nat.reduceAdd, Nat.reduceSub, Nat.reduceMul, Nat.reduceEqDiff, Nat.reduceLeDiff, Nat.reduceLT, ↓reduceIte, Int.reduceToNat, reduceCtorEq, Int.cast_ofNat_Int, Int.reduceLT, Int.reduceLE, Int.reduceGT, Int.reduceGE, Int.reduceEq, Int.reduceNe, Int.reduceNeg, Int.reduceAdd, Int.reduceSub, Int.le_refl, gt_iff_lt, c1, c2]
        exact fin _
      · have := hput (fun _ h => c2 (by rw [← hn]; exact h.2)) (fun h => by rw [he] at h; cases h)
        subst this
        simp only [go_sem, Nat.reduceAdd, Nat.reduceSub, Nat.reduceMul, Nat.reduceEqDiff, Nat.reduceLeDiff, Nat.reduceLT, ↓reduceIte, Int.reduceToNat, reduceCtorEq, Int.cast_ofNat_Int, Int.reduceLT, Int.reduceLE, Int.reduceGT, Int.reduceGE, Int.reduceEq, Int.reduceNe, Int.reduceNeg, Int.reduceAdd, Int.reduceSub, Int.le_refl, gt_iff_lt, c1, c2]
        have hS := Same_c e' e'
        rw [sameE_self] at hS
        simp only [Eff.av, Eff.cells, Eff.cellsD] at hS
        refine rK_use (enters_of Tryd.func25 rfl (by decide)) (ACalls.pure_use hS rfl rfl) ?_
        simp only [go_sem, Nat.reduceAdd, Nat.reduceSub, Nat.reduceMul, Nat.reduceEqDiff, Nat.reduceLeDiff, Nat.reduceLT, ↓reduceIte, Int.reduceToNat, reduceCtorEq, Int.cast_ofNat_Int, Int.reduceLT, Int.reduceLE, Int.reduceGT, Int.reduceGE, Int.reduceEq, Int.reduceNe, Int.reduceNeg, Int.reduceAdd, Int.reduceSub, Int.le_refl]
        exact fin _
    · have := hput (fun _ h => c1 h.1) (fun h => by rw [he] at h; cases h)
      subst this
      simp only [go_sem, Nat.reduceAdd, Nat.reduceSub, Nat.reduceMul, Nat.reduceEqDiff, Nat.reduceLeDiff, Nat.reduceLT, ↓reduceIte, Int.reduceToNat, reduceCtorEq, Int.cast_ofNat_Int, Int.reduceLT, Int.reduceLE, Int.reduceGT, Int.reduceGE, Int.reduceEq, Int.reduceNe, Int.reduceNeg, Int.reduceAdd, Int.reduceSub, Int.le_refl, gt_iff_lt, c1]
      have hS := Same_c e' e'
      rw [sameE_self] at hS
      simp only [Eff.av, Eff.cells, Eff.cellsD] at hS
      refine rK_use (enters_of Tryd.func25 rfl (by decide)) (ACalls.pure_use hS rfl rfl) ?_
      simp only [go_sem, Nat.reduceAdd, Nat.reduceSub, Nat.reduceMul, Nat.reduceEqDiff, Nat.reduceLeDiff, Nat.reduceLT, ↓reduceIte, Int.reduceToNat, reduceCtorEq, Int.cast_ofNat_Int, Int.reduceLT, Int.reduceLE, Int.reduceGT, Int.reduceGE, Int.reduceEq, Int.reduceNe, Int.reduceNeg, Int.reduceAdd, Int.reduceSub, Int.le_refl]
      exact fin _
  · obtain ⟨hxe, hk4⟩ := s20 he
    have := hput (fun h => by rw [he] at h; cases h) (fun h => by rw [he] at h; cases h)
    subst this
    clear hput s0 s21 s20
    obtain ⟨g, po, da, ⟨tk, tn, f⟩, y2⟩ := e'
    simp only at hxe hk4
    subst hxe hk4
    simp only [go_sem, Nat.reduceAdd, Nat.reduceSub, Nat.reduceMul, Nat.reduceEqDiff, Nat.reduceLeDiff, Nat.reduceLT, ↓reduceIte, Int.reduceToNat, reduceCtorEq, Int.cast_ofNat_Int, Int.reduceLT, Int.reduceLE, Int.reduceGT, Int.reduceGE, Int.reduceEq, Int.reduceNe, Int.reduceNeg, Int.reduceAdd, Int.reduceSub, Int.le_refl, eq_false hpc]
    refine rK_use (enters_of Tryd.func24 rfl (by decide)) (ACalls.pure_use (ilen_n x0 x0_no) rfl rfl) ?_
    simp only [go_sem, Nat.reduceAdd, Nat.reduceSub, Nat.reduceMul, Nat.reduceEqDiff, Nat.reduceLeDiff, Nat.reduceLT, ↓reduceIte, Int.reduceToNat, reduceCtorEq, Int.cast_ofNat_Int, Int.reduceLT, Int.reduceLE, Int.reduceGT, Int.reduceGE, Int.reduceEq, Int.reduceNe, Int.reduceNeg, Int.reduceAdd, Int.reduceSub, Int.le_refl]
    have hS := Same_c ⟨g, po, da, ⟨4, tn, f⟩, x0⟩ ⟨g, po, da, ⟨4, tn, f⟩, x0⟩
    rw [sameE_self] at hS
    simp only [Eff.av, Eff.cells, Eff.cellsD] at hS
    refine rK_use (enters_of Tryd.func25 rfl (by decide)) (ACalls.pure_use hS rfl rfl) ?_
    simp only [go_sem, Nat.reduceAdd, Nat.reduceSub, Nat.reduceMul, Nat.reduceEqDiff, Nat.reduceLeDiff, Nat.reduceLT, ↓reduceIte, Int.reduceToNat, reduceCtorEq, Int.cast_ofNat_Int, Int.reduceLT, Int.reduceLE, Int.reduceGT, Int.reduceGE, Int.reduceEq, Int.reduceNe, Int.reduceNeg, Int.reduceAdd, Int.reduceSub, Int.le_refl]
    exact fin _
  · obtain ⟨hxe, hk3⟩ := s21 he
    obtain ⟨g, po, da, ⟨tk, tn, f⟩, y2⟩ := e
    simp only at hxe hk3
    subst hxe hk3
    simp only [go_sem, Nat.reduceAdd, Nat.reduceSub, Nat.reduceMul, Nat.reduceEqDiff, Nat.reduceLeDiff, Nat.reduceLT, ↓reduceIte, Int.reduceToNat, reduceCtorEq, Int.cast_ofNat_Int, Int.reduceLT, Int.reduceLE, Int.reduceGT, Int.reduceGE, Int.reduceEq, Int.reduceNe, Int.reduceNeg, Int.reduceAdd, Int.reduceSub, Int.le_refl, eq_false hpc]
    refine rK_use (enters_of Tryd.func24 rfl (by decide)) (ACalls.pure_use (ilen_n x0 x0_no) rfl rfl) ?_
    rcases Decidable.em (r.pc < k) with c1 | c1
    · rcases Decidable.em (iw .i64 (k - r.pc) < 12) with c2 | c2
      · simp only [go_sem, Nat.reduceAdd, Nat.reduceSub, Nat.reduceMul, Nat.reduceEqDiff, Nat.reduceLeDiff, Nat.reduceLT, ↓reduceIte, Int.reduceToNat, reduceCtorEq, Int.cast_ofNat_Int, Int.reduceLT, Int.reduceLE, Int.reduceGT, Int.reduceGE, Int.reduceEq, Int.reduceNe, Int.reduceNeg, Int.reduceAdd, Int.reduceSub, Int.le_refl, gt_iff_lt, c1, c2]
        exact fin _
      · have := hput (fun h => by rw [he] at h; cases h) (fun _ h => c2 h.2)
        subst this
        simp only [go_sem, Nat.reduceAdd, Nat.reduceSub, Nat.reduceMul, Nat.reduceEqDiff, Nat.reduceLeDiff, Nat.reduceLT, ↓reduceIte, Int.reduceToNat, reduceCtorEq, Int.cast_ofNat_Int, Int.reduceLT, Int.reduceLE, Int.reduceGT, Int.reduceGE, Int.reduceEq, Int.reduceNe, Int.reduceNeg, Int.reduceAdd, Int.reduceSub, Int.le_refl, gt_iff_lt, c1, c2]
        have hS := Same_c ⟨g, po, da, ⟨3, tn, f⟩, x0⟩ ⟨g, po, da, ⟨3, tn, f⟩, x0⟩
        rw [sameE_self] at hS
        simp only [Eff.av, Eff.cells, Eff.cellsD] at hS
        refine rK_use (enters_of Tryd.func25 rfl (by decide)) (ACalls.pure_use hS rfl rfl) ?_
        simp only [go_sem, Nat.reduceAdd, Nat.reduceSub, Nat.reduceMul, Nat.reduceEqDiff, Nat.reduceLeDiff, Nat.reduceLT, ↓reduceIte, Int.reduceToNat, reduceCtorEq, Int.cast_ofNat_Int, Int.reduceLT, Int.reduceLE, Int.reduceGT, Int.reduceGE, Int.reduceEq, Int.reduceNe, Int.reduceNeg, Int.reduceAdd, Int.reduceSub, Int.le_refl]
        exact fin _
    · have := hput (fun h => by rw [he] at h; cases h) (fun _ h => c1 h.1)
      subst this
      simp only [go_sem, Nat.reduceAdd, Nat.reduceSub, Nat.reduceMul, Nat.reduceEqDiff, Nat.reduceLeDiff, Nat.reduceLT, ↓reduceIte, Int.reduceToNat, reduceCtorEq, Int.cast_ofNat_Int, Int.reduceLT, Int.reduceLE, Int.reduceGT, Int.reduceGE, Int.reduceEq, Int.reduceNe, Int.reduceNeg, Int.reduceAdd, Int.reduceSub, Int.le_refl, gt_iff_lt, c1]
      have hS := Same_c ⟨g, po, da, ⟨3, tn, f⟩, x0⟩ ⟨g, po, da, ⟨3, tn, f⟩, x0⟩
      rw [sameE_self] at hS
      simp only [Eff.av, Eff.cells, Eff.cellsD] at hS
      refine rK_use (enters_of Tryd.func25 rfl (by decide)) (ACalls.pure_use hS rfl rfl) ?_
      simp only [go_sem, Nat.reduceAdd, Nat.reduceSub, Nat.reduceMul, Nat.reduceEqDiff, Nat.reduceLeDiff, Nat.reduceLT, ↓reduceIte, Int.reduceToNat, reduceCtorEq, Int.cast_ofNat_Int, Int.reduceLT, Int.reduceLE, Int.reduceGT, Int.reduceGE, Int.reduceEq, Int.reduceNe, Int.reduceNeg, Int.reduceAdd, Int.reduceSub, Int.le_refl]
      exact fin _
end Go.Proofs.YtojfnagfafoiaaaDoor
