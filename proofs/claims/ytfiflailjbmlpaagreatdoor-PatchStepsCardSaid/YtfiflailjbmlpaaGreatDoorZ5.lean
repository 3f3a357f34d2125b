/- Texts joined, without what is not needed. No condition. -/
import Derived.Test.YtfiflailjbmlpaaGreatDoorZ4
set_option maxRecDepth 100000
set_option linter.unusedVariables false
set_option linter.unusedSimpArgs false
namespace Go.Proofs.YtfiflailjbmlpaaGreatDoor
open Go.AM
structure Eff where
  rg : Rg
  pos : Int
  data : List UInt8
  trap : Trp
  x : Ins
def Eff.cellsD (e : Eff) (d : AV) : List AV :=
  [iv e.rg.r0, iv e.rg.r1, iv e.rg.r2, iv e.rg.r3, iv e.rg.r4, iv e.rg.r5, iv e.rg.r6, iv e.rg.r7, iv e.rg.pc, iv e.pos, d, iv e.trap.kind, iv e.trap.n, iv e.trap.f.kind, iv e.trap.f.pos, iv e.x.op, iv e.x.a, iv e.x.b, iv e.x.imm]
def Eff.cells (e : Eff) : List AV := e.cellsD (dby e.data)
def Eff.av (e : Eff) : AV := .agg e.cells
theorem Eff.av_lt (e : Eff) (m : Nat) : e.av.lt m = true := by simp [Eff.av, Eff.cells, Eff.cellsD, AV.lt, ltL]
def Res.eff (x : Ins) (r : Rg) : Res → Eff
  | .tr t _ => ⟨r, 0, [], t, x⟩
  | .ok p d => ⟨p.rg, p.pos, d, ⟨p.tk, p.tn, ⟨0, 0⟩⟩, x⟩
def exec (x : Ins) (s : Sp) (r : Rg) : Eff := (effect x s r).eff x r
theorem leL_dnil (e : Eff) : LeL (e.cellsD dnil) (e.cellsD (dby [])) := by
  unfold Eff.cellsD
  repeat' (first | exact LeL.nil | refine LeL.cons (.refl _) ?_ | refine LeL.cons (.nil true false 0 1 (by simp)) ?_)
theorem exec_res : Tryz.f112.results.toList = [ResultVar.cell 6 40] := rfl
theorem exec_c (x : Ins) (hx : x.ok) (s : Sp) (hs : s.ok) (r : Rg) (hr : r.wf) :
    ACalls Tryz.prog 112 [x.av, s.av, r.av] [] (fun o H => o = .ret (exec x s r).av ∧ H = []) := by
  refine ACalls.up ?_
  refine ACalls.introD (n := 43) Tryz.func112 rfl (by kernel_rfl) rfl ?_
  refine DWp.seq (by kernel_rfl) ?_
  generalize hpost : (fun (o : Out) (H : Heap) => o = Out.ret (exec x s r).av ∧ H = []) = post
  have fin : ∀ (e : Eff) H, e = exec x s r → Up 0 post (.ret (.agg (e.cellsD (dby e.data)))) H := fun e H h => finv (Eff.av_lt e 0) (by rw [← hpost, ← h]; exact ⟨rfl, rfl⟩) H
  have finN : ∀ (e : Eff) H, e = exec x s r → e.data = [] → Up 0 post (.ret (.agg (e.cellsD dnil))) H := fun e H h hd => .le (.ret (.agg (leL_dnil e))) (LeH.refl _) (by have := fin e H h; rwa [hd] at this)
  simp only [go_sem,Ins.av,Ins.cells,Sp.av,Rg.av,Rg.cells]
  refine DWp.defer (by kernel_rfl) rfl (by kernel_rfl) (by kernel_rfl) ?_
  simp only [go_sem]
  refine ⟨(enters_of Tryz.func129 rfl (by decide)), fun d => ?_⟩
  refine draw [.qu 0 0, .qu 0 0, .qu 0 0, .qu 0 0, .qu 0 0, .qu 0 0, .qu 0 0, .qu 0 0, .qu 0 0, .qu 0 0, .qu 0 0, .qu 0 0, .qu 0 0, .mn 0, .qu 1 1] (by kernel_rfl) (by kernel_rfl) ?_
  simp only [go_sem,Ins.cells,Rg.cells]
  refine y_call (enters_of Tryz.func131 rfl (by decide)) (fun _ => ACalls.pure_use (ilen_c x hx) rfl rfl) ?_
  simp only [go_sem]
  refine y_call (enters_of Tryz.func130 rfl (by decide)) (fun _ => ACalls.pure_use (mustI_c _) rfl rfl) ?_
  have hl : iw .i64 (x.len : Int) = x.len := by have := flen_le (kform x.op); exact iw64 (by unfold Ins.len; omega) (by unfold Ins.len; omega)
  simp only [go_sem,hl]
  have hc := execute_c x hx s hs r hr
  cases he : effect x s r with
  | tr t p =>
    rw [he] at hc
    have hc' : ACalls Tryz.prog 132 [.ptr 0 0 0] [.rows 31 [(Pr.start x s r).row dnil]] (fun o H => o = .pan (trapV t) ∧ H = [.rows 31 [p.row dnil]]) := hc
    refine rK_pans (enters_of Tryz.func132 rfl (by decide)) (hc'.panE [4] (trapV t) [.rows 4 [[iv x.op, iv x.a, iv x.b, iv x.imm]], .rows 2 [[.view false 1 (s.perm.map r1), .view false 1 (s.byt.map rb)]], .rows 9 [[iv r.r0, iv r.r1, iv r.r2, iv r.r3, iv r.r4, iv r.r5, iv r.r6, iv r.r7, iv r.pc]], .rows 19 [Eff.cellsD ⟨⟨0, 0, 0, 0, 0, 0, 0, 0, 0⟩, 0, [], ⟨0, 0, ⟨0, 0⟩⟩, ⟨0, 0, 0, 0⟩⟩ dnil], .rows 31 [p.row dnil]] (by decide) rfl (by simp) rfl rfl rfl rfl) ?_
    simp only [go_sem,trapV,Trp.cells,Eff.cellsD]
    refine ADef.intro (n := 17) Tryz.func129 rfl rfl (by kernel_rfl) rfl (by kernel_rfl) ?_
    simp only [go_sem,exec_res]
    exact finN ⟨r, 0, [], t, x⟩ _ (by rw [exec, he]; rfl) rfl
  | ok p d' =>
    rw [he] at hc
    have hc' : ACalls Tryz.prog 132 [.ptr 0 0 0] [.rows 31 [(Pr.start x s r).row dnil]] (fun o H => o = .ret (.tuple []) ∧ H = [.rows 31 [p.row (dav d')]]) := hc
    refine rK_use (enters_of Tryz.func132 rfl (by decide)) (hc'.useE [4] (.tuple []) [.rows 4 [[iv x.op, iv x.a, iv x.b, iv x.imm]], .rows 2 [[.view false 1 (s.perm.map r1), .view false 1 (s.byt.map rb)]], .rows 9 [[iv r.r0, iv r.r1, iv r.r2, iv r.r3, iv r.r4, iv r.r5, iv r.r6, iv r.r7, iv r.pc]], .rows 19 [Eff.cellsD ⟨⟨0, 0, 0, 0, 0, 0, 0, 0, 0⟩, 0, [], ⟨0, 0, ⟨0, 0⟩⟩, ⟨0, 0, 0, 0⟩⟩ dnil], .rows 31 [p.row (dav d')]] (by decide) rfl (by simp) rfl rfl rfl (by cases d' <;> rfl)) ?_
    simp only [go_sem]
    refine draw [.qu 0 0, .qu 0 0, .qu 0 0, .qu 0 0, .qu 0 0, .qu 0 0, .qu 0 0, .qu 0 0, .qu 0 0, .qu 0 0, .qu 0 0, .qu 0 0, .qu 0 0, .qu 0 0, .qu 0 0, .qu 0 0, .qu 0 0, .qu 0 0, .mn 0] (by kernel_rfl) (by kernel_rfl) ?_
    cases d' with
    | nil =>
      simp only [go_sem,Pr.row,Eff.cellsD,dav]
      refine ADef.intro (n := 17) Tryz.func129 rfl rfl (by kernel_rfl) rfl (by kernel_rfl) ?_
      simp only [go_sem,exec_res]
      exact finN ⟨p.rg, p.pos, [], ⟨p.tk, p.tn, ⟨0, 0⟩⟩, x⟩ _ (by rw [exec, he]; rfl) rfl
    | cons b l =>
      simp only [go_sem,Pr.row,Eff.cellsD,dav]
      refine ADef.intro (n := 17) Tryz.func129 rfl rfl (by kernel_rfl) rfl (by kernel_rfl) ?_
      simp only [go_sem,exec_res]
      exact fin ⟨p.rg, p.pos, b :: l, ⟨p.tk, p.tn, ⟨0, 0⟩⟩, x⟩ _ (by rw [exec, he]; rfl)
end Go.Proofs.YtfiflailjbmlpaaGreatDoor
set_option maxRecDepth 100000
set_option linter.unusedVariables false
set_option linter.unusedSimpArgs false
namespace Go.Proofs.YtfiflailjbmlpaaGreatDoor
open Go.AM
theorem bOr_add {k : Nat} (hk : k ≤ 8) {v c : Int} (h0 : 0 ≤ c) (h1 : c < 2 ^ k) : bOr .i64 (iw .i64 (v * 2 ^ k)) c = iw .i64 (v * 2 ^ k + c) := by
  have hp : (0 : Int) < 2 ^ k := Int.pow_pos (by decide)
  have h256 : (2 : Int) ^ k ≤ 256 := by
    have : k = 0 ∨ k = 1 ∨ k = 2 ∨ k = 3 ∨ k = 4 ∨ k = 5 ∨ k = 6 ∨ k = 7 ∨ k = 8 := by omega
    rcases this with rfl | rfl | rfl | rfl | rfl | rfl | rfl | rfl | rfl <;> decide
  unfold bOr
  show iw .i64 (((BitVec.ofInt 64 (iw .i64 (v * 2 ^ k)) ||| BitVec.ofInt 64 c).toNat : Nat) : Int) = _
  rw [BitVec.toNat_or]
  have e1 := toNat_ofInt (iw .i64 (v * 2 ^ k))
  have e2 := toNat_ofInt c
  have e3 : iw .i64 (v * 2 ^ k) % 18446744073709551616 = (v * 2 ^ k) % 18446744073709551616 := by rw [iwi64]; omega
  rw [e3] at e1
  generalize hA : (BitVec.ofInt 64 (iw .i64 (v * 2 ^ k))).toNat = A at *
  generalize hC : (BitVec.ofInt 64 c).toNat = C at *
  have hc : (C : Int) = c := by rw [e2]; omega
  have hdvd : (2 ^ k : Nat) ∣ A := by
    have h2 : ((2 ^ k : Nat) : Int) ∣ (A : Int) := by
      rw [e1]
      have hd : ((2 : Int) ^ k) ∣ 18446744073709551616 := by
        have : (18446744073709551616 : Int) = 2 ^ k * 2 ^ (64 - k) := by rw [← Int.pow_add]; rw [show k + (64 - k) = 64 by omega]; rfl
        exact ⟨_, this⟩
      have : ((2 ^ k : Nat) : Int) = 2 ^ k := by simp
      rw [this, Int.emod_def]
      exact Int.dvd_sub (Int.dvd_mul_left _ _) (Int.dvd_mul_of_dvd_left hd)
    exact Int.natCast_dvd_natCast.1 h2
  obtain ⟨q, rfl⟩ := hdvd
  have hlt : C < 2 ^ k := by
    have : (C : Int) < ((2 ^ k : Nat) : Int) := by rw [hc]; simpa using h1
    exact Int.ofNat_lt.1 this
  rw [← Nat.two_pow_add_eq_or_of_lt hlt]
  refine iw_congr ?_
  rw [Int.natCast_add, hc, Int.add_emod, e1, Int.emod_emod_of_dvd _ (Int.dvd_refl _), ← Int.add_emod]
theorem bOr128 (v : Int) {c : Int} (h0 : 0 ≤ c) (h1 : c < 128) : bOr .i64 (iw .i64 (v * 128)) c = iw .i64 (v * 128 + c) := bOr_add (k := 7) (by decide) h0 h1
theorem scan_at (wide : Bool) (b : List UInt8) (n : Nat) : ∀ (m i : Nat), scan wide b n m i = 0 → ∀ j, i ≤ j → j < i + m → ∃ c, b[j]? = some c ∧ (c.toNat : Int) < 128
  | 0, i, _, j, h1, h2 => by omega
  | m + 1, i, h, j, h1, h2 => by
    rw [scan] at h
    split at h
    · cases h
    · rename_i c hc
      split at h
      · cases h
      · rename_i hno
        rcases Nat.eq_or_lt_of_le h1 with rfl | h3
        · exact ⟨c, hc, by omega⟩
        · exact scan_at wide b n m (i + 1) h j h3 (by omega)
theorem fits_imm {f : Int} {bs : List UInt8} (hl : bs.length = bytesOf f) (hb : ∀ c ∈ bs, (c.toNat : Int) < 128) : fits f (immL bs (imm0 f bs)) = true := by
  unfold fits
  by_cases h3 : f = 3
  · rw [if_pos h3]
  rw [if_neg h3]
  by_cases h8 : f = 8
  · rw [if_pos h8]
    subst h8
    match bs, hl with
    | [c], _ =>
      have hc := hb c (by simp)
      have h0 := u8_ge c
      have : immL [c] (imm0 8 [c]) = c.toNat := by simp only [immL, imm0, List.foldr]; exact bOr0 c
      rw [this]
      simp; omega
  rw [if_neg h8]
  have hcase : bytesOf f = 0 ∨ bytesOf f = 1 ∨ bytesOf f = 2 := by unfold bytesOf; rw [if_neg h3]; split <;> (try split) <;> simp
  rcases hcase with hc | hc | hc
  · rw [hc] at hl ⊢
    rw [List.length_eq_zero_iff.1 hl]
    simp [immL, imm0]
  · rw [hc] at hl ⊢
    match bs, hl with
    | [c], _ =>
      have hc := hb c (by simp)
      have h0 := u8_ge c
      have e : immL [c] (imm0 f [c]) = bOr .i64 (iw .i64 (imm0 f [c] * 128)) (c.toNat : Int) := rfl
      rw [e, bOr128 _ h0 hc]
      by_cases h64 : 64 ≤ (c.toNat : Int)
      · have : imm0 f [c] = -1 := by simp [imm0, topB, h8, h64]
        rw [this, iw64 (by omega) (by omega)]
        simp; omega
      · have : imm0 f [c] = 0 := by simp [imm0, topB, h64]
        rw [this, iw64 (by omega) (by omega)]
        simp; omega
  · rw [hc] at hl ⊢
    match bs, hl with
    | [c, d], _ =>
      have hc := hb c (by simp)
      have hd := hb d (by simp)
      have h0 := u8_ge c
      have h1 := u8_ge d
      have e : immL [c, d] (imm0 f [c, d]) = bOr .i64 (iw .i64 (bOr .i64 (iw .i64 (imm0 f [c, d] * 128)) (d.toNat : Int) * 128)) (c.toNat : Int) := rfl
      rw [e, bOr128 _ h1 hd, bOr128 _ h0 hc]
      by_cases h64 : 64 ≤ (d.toNat : Int)
      · have : imm0 f [c, d] = -1 := by simp [imm0, topB, h8, h64]
        rw [this, iw64 (n := -1 * 128 + (d.toNat : Int)) (by omega) (by omega), iw64 (by omega) (by omega)]
        simp; omega
      · have : imm0 f [c, d] = 0 := by simp [imm0, topB, h64]
        rw [this, iw64 (n := 0 * 128 + (d.toNat : Int)) (by omega) (by omega), iw64 (by omega) (by omega)]
        simp; omega
theorem decB_ok {b : List UInt8} {op a b' : Int} {k : Nat} (ho : isOp op = true) (ha : 0 ≤ a ∧ a ≤ 7) (hb : 0 ≤ b' ∧ b' ≤ 7) (hA : hasA (kform op) = true ∨ a = 0) (hB : hasB (kform op) = true ∨ b' = 0) (hk : flen (kform op) = bytesOf (kform op) + k) (hkl : k ≤ b.length)
    (he : (decB b op a b' k).e = 0) : (decB b op a b' k).x.ok ∧ (decB b op a b' k).n = flen (kform op) ∧ (decB b op a b' k).x.op = op := by
  unfold decB at he ⊢
  split
  · rename_i hs
    refine ⟨⟨ho, ha.1, ha.2, hb.1, hb.2, hA, hB, ?_⟩, rfl, rfl⟩
    rw [hk, Nat.add_sub_cancel] at hs
    have hlen := scan_len _ _ _ _ _ hs hkl
    rw [hk]
    refine fits_imm (by simp; omega) ?_
    intro c hc
    obtain ⟨i, hi⟩ := List.getElem?_of_mem hc
    have hil := (List.getElem?_eq_some_iff.1 hi).1
    simp at hil
    rw [List.getElem?_drop, List.getElem?_take, if_pos (by omega)] at hi
    obtain ⟨c', h1, h2⟩ := scan_at _ _ _ _ _ hs (k + i) (by omega) (by omega)
    rw [hi] at h1
    injection h1 with h1
    rw [h1]; exact h2
  · rename_i hs
    rw [if_neg hs] at he
    exact absurd he hs
theorem dec_ok {b : List UInt8} (he : (dec b).e = 0) : (dec b).x.ok := by
  rcases b with _ | ⟨b0, rest⟩
  · cases he
  rw [dec_cons] at he ⊢
  by_cases ho : isOp ((b0.toNat : Int) - 128) = true
  · rw [if_pos ho] at he ⊢
    have hsp := flen_split (kform ((b0.toNat : Int) - 128))
    by_cases hA : hasA (kform ((b0.toNat : Int) - 128)) = true
    · rw [if_pos hA] at he ⊢ hsp
      rcases rest with _ | ⟨b1, rest⟩
      · cases he
      · simp only at he ⊢
        have h0 := u8_ge b1
        by_cases hB : hasB (kform ((b0.toNat : Int) - 128)) = true
        · rw [if_pos hB] at he ⊢
          by_cases h64 : 64 ≤ (b1.toNat : Int)
          · rw [if_pos h64] at he; cases he
          · rw [if_neg h64] at he ⊢
            have e1 : (b1.toNat : Int).tdiv 8 = (b1.toNat : Int) / 8 := Int.tdiv_eq_ediv_of_nonneg h0
            have e2 : (b1.toNat : Int).tmod 8 = (b1.toNat : Int) % 8 := Int.tmod_eq_emod_of_nonneg h0
            exact (decB_ok ho (by omega) (by omega) (.inl hA) (.inl hB) hsp (by simp) he).1
        · rw [if_neg hB] at he ⊢
          by_cases h64 : 8 ≤ (b1.toNat : Int)
          · rw [if_pos h64] at he; cases he
          · rw [if_neg h64] at he ⊢
            exact (decB_ok ho (by omega) (by omega) (.inl hA) (.inr rfl) hsp (by simp) he).1
    · rw [if_neg hA] at he ⊢ hsp
      exact (decB_ok ho (by omega) (by omega) (.inr rfl) (.inr rfl) hsp (by simp) he).1
  · rw [if_neg ho] at he; cases he
theorem dec_e (b : List UInt8) : (dec b).e = 0 ∨ (dec b).e = 20 ∨ (dec b).e = 21 := by
  have hB : ∀ op a b' k, (decB b op a b' k).e = 0 ∨ (decB b op a b' k).e = 20 ∨ (decB b op a b' k).e = 21 := fun op a b' k => by
    unfold decB
    split
    · exact .inl rfl
    · exact scan_vals _ _ _ _ _
  rcases b with _ | ⟨b0, rest⟩
  · exact .inr (.inr rfl)
  rw [dec_cons]
  split
  · split
    · rcases rest with _ | ⟨b1, rest⟩
      · exact .inr (.inr rfl)
      · simp only
        split <;> split <;> first | exact .inr (.inl rfl) | exact hB _ _ _ _
    · exact hB _ _ _ _
  · exact .inr (.inl rfl)
def x0 : Ins := ⟨0, 0, 0, 0⟩
def step (s : Sp) (r : Rg) : Eff :=
  if (dec (s.fet r.pc 12 0)).e = 0 then exec (dec (s.fet r.pc 12 0)).x s r
  else if (dec (s.fet r.pc 12 0)).e = 21 then ⟨r, 0, [], ⟨3, 0, s.flt r.pc 4 ((s.fet r.pc 12 0).length + 1) 0⟩, x0⟩
  else ⟨r, 0, [], ⟨4, 0, ⟨0, 0⟩⟩, x0⟩
theorem step_c (s : Sp) (hs : s.ok) (r : Rg) (hr : r.wf) :
    ACalls Tryz.prog 75 [s.av, r.av] [] (fun o H => o = .ret (step s r).av ∧ H = []) := by
  refine ACalls.up ?_
  refine ACalls.intro (cs := []) (n := 49) Tryz.func75 rfl rfl rfl (by kernel_rfl) rfl ?_
  generalize hpost : (fun (o : Out) (H : Heap) => o = Out.ret (step s r).av ∧ H = []) = post
  have finN : ∀ (e : Eff) H, e = step s r → e.data = [] → Up 0 post (.ret (.agg (e.cellsD dnil))) H := fun e H h hd => .le (.ret (.agg (leL_dnil e))) (LeH.refl _) (finv (v := .agg (e.cellsD (dby []))) (by simp [Eff.cellsD, AV.lt, ltL]) (by rw [← hpost, ← h]; exact ⟨by rw [Eff.av, Eff.cells, hd], rfl⟩) _)
  simp only [go_sem,Sp.av,Rg.av,Rg.cells]
  refine rK_use (enters_of Tryz.func95 rfl (by decide)) (ACalls.pure_use (fetch_c s hs r.pc 12 (by decide)) rfl (by simp [AV.lt, ltL])) ?_
  have hbl := s.fet_len r.pc 12 0
  simp only [go_sem]
  refine rK_use (enters_of Tryz.func111 rfl (by decide)) (ACalls.pure_use (mustB_c ((s.fet r.pc 12 0).map rb) (rb_lt0 _)) rfl (by simp [AV.lt])) ?_
  generalize hb : s.fet r.pc 12 0 = b at *
  simp only [go_sem]
  refine rK_use (enters_of Tryz.func96 rfl (by decide)) (ACalls.pure_use (decode_c b (by omega)) rfl (by simp [Dec.av, AV.lt, ltL, Ins.av, Ins.cells])) ?_
  rcases dec_e b with he | he | he
  · simp only [go_sem,Dec.av,he,Ins.av,Ins.cells]
    refine rK_use (enters_of Tryz.func112 rfl (by decide)) (ACalls.pure_use (exec_c (dec b).x (dec_ok he) s hs r hr) rfl (Eff.av_lt _ _)) ?_
    simp only [go_sem,Eff.av,Eff.cells,Eff.cellsD]
    refine finv (v := (exec (dec b).x s r).av) (Eff.av_lt _ 0) ?_ _
    rw [← hpost]
    exact ⟨by rw [step, hb, if_pos he], rfl⟩
  · simp only [go_sem,Dec.av,he,Ins.av,Ins.cells]
    exact finN ⟨r, 0, [], ⟨4, 0, ⟨0, 0⟩⟩, x0⟩ _ (by rw [step, hb, if_neg (by rw [he]; decide), if_neg (by rw [he]; decide)]) rfl
  · have e1 : iw .i64 ((b.length : Int) + 1) = ((b.length + 1 : Nat) : Int) := by rw [iw64] <;> omega
    simp only [go_sem,Dec.av,he,Ins.av,Ins.cells,List.length_map,e1]
    refine rK_use (enters_of Tryz.func72 rfl (by decide)) (ACalls.pure_use (access_c s hs r.pc 4 (b.length + 1) (by omega) (by simp)) rfl rfl) ?_
    simp only [go_sem]
    refine rK_use (enters_of Tryz.func71 rfl (by decide)) (ACalls.pure_use (mustF_c _) rfl rfl) ?_
    simp only [go_sem,Flt.cells]
    exact finN ⟨r, 0, [], ⟨3, 0, s.flt r.pc 4 (b.length + 1) 0⟩, x0⟩ _ (by rw [step, hb, if_neg (by rw [he]; decide), if_pos he]) rfl
theorem zeroE : LeV (.agg (Eff.cellsD ⟨⟨0, 0, 0, 0, 0, 0, 0, 0, 0⟩, 0, [], ⟨0, 0, ⟨0, 0⟩⟩, x0⟩ dnil)) (Eff.av ⟨⟨0, 0, 0, 0, 0, 0, 0, 0, 0⟩, 0, [], ⟨0, 0, ⟨0, 0⟩⟩, x0⟩) := .agg (leL_dnil _)
def eff0 : Eff := ⟨⟨0, 0, 0, 0, 0, 0, 0, 0, 0⟩, 0, [], ⟨0, 0, ⟨0, 0⟩⟩, x0⟩
theorem Exec_c (x : Ins) (hx : x.ok) (s : Sp) (hs : s.ok) (r : Rg) (hr : r.wf) :
    ACalls Tryz.prog 80 [x.av, s.av, r.av] [] (fun o H => o = .ret (.tuple [(exec x s r).av, iv 0]) ∧ H = []) := by
  refine ACalls.up ?_
  refine ACalls.intro (cs := []) (n := 26) Tryz.func80 rfl rfl rfl (by kernel_rfl) rfl ?_
  generalize hpost : (fun (o : Out) (H : Heap) => o = Out.ret (.tuple [(exec x s r).av, iv 0]) ∧ H = []) = post
  simp only [go_sem,Sp.av,Rg.av,Rg.cells,Ins.av,Ins.cells]
  refine rK_use (enters_of Tryz.func61 rfl (by decide)) (ACalls.pure_use (mcheck_c s) rfl rfl) ?_
  rw [Sp.chk_ok hs]
  simp only [go_sem]
  refine rK_use (enters_of Tryz.func51 rfl (by decide)) (ACalls.pure_use (icheck_c x) rfl rfl) ?_
  rw [Ins.chk, if_pos hx]
  simp only [go_sem]
  refine rK_use (enters_of Tryz.func112 rfl (by decide)) (ACalls.pure_use (exec_c x hx s hs r hr) rfl (Eff.av_lt _ _)) ?_
  simp only [go_sem,Eff.av,Eff.cells,Eff.cellsD]
  refine finv (v := .tuple [(exec x s r).av, iv 0]) (by simp [AV.lt, ltL, Eff.av_lt]) ?_ _
  rw [← hpost]
  exact ⟨rfl, rfl⟩
theorem Step_c (s : Sp) (hs : s.ok) (r : Rg) (hr : r.wf) :
    ACalls Tryz.prog 35 [s.av, r.av] [] (fun o H => o = .ret (.tuple [(step s r).av, iv 0]) ∧ H = []) := by
  refine ACalls.up ?_
  refine ACalls.intro (cs := []) (n := 16) Tryz.func35 rfl rfl rfl (by kernel_rfl) rfl ?_
  generalize hpost : (fun (o : Out) (H : Heap) => o = Out.ret (.tuple [(step s r).av, iv 0]) ∧ H = []) = post
  simp only [go_sem,Sp.av,Rg.av,Rg.cells]
  refine rK_use (enters_of Tryz.func61 rfl (by decide)) (ACalls.pure_use (mcheck_c s) rfl rfl) ?_
  rw [Sp.chk_ok hs]
  simp only [go_sem]
  refine rK_use (enters_of Tryz.func75 rfl (by decide)) (ACalls.pure_use (step_c s hs r hr) rfl (Eff.av_lt _ _)) ?_
  simp only [go_sem,Eff.av,Eff.cells,Eff.cellsD]
  refine finv (v := .tuple [(step s r).av, iv 0]) (by simp [AV.lt, ltL, Eff.av_lt]) ?_ _
  rw [← hpost]
  exact ⟨rfl, rfl⟩
end Go.Proofs.YtfiflailjbmlpaaGreatDoor
set_option linter.unusedVariables false
set_option linter.unusedSimpArgs false
namespace Go.AM
mutual
def AV.bare : AV → Bool
  | .view _ _ xs => xs.isEmpty
  | .iface _ v => AV.bare v
  | .agg cs => bareL cs
  | .tuple vs => bareL vs
  | .any | .bool _ | .int _ _ | .str _ | .nilptr | .nilchan | .nilmap | .nilfunc | .nilif => true
  | .ptr _ _ _ | .cptr _ _ | .sl _ _ _ _ | .rsl _ _ _ _ | .chan _ | .yfn _ | .map _ | .func _ _ _ => false
def bareL : List AV → Bool
  | [] => true
  | x :: xs => AV.bare x && bareL xs
end
theorem bareL_get : ∀ {xs : List AV}, bareL xs = true → ∀ {k : Nat} {x : AV}, xs[k]? = some x → x.bare = true
  | [], _, k, x, h => by simp at h
  | y :: ys, hl, k, x, h => by
    simp only [bareL, Bool.and_eq_true] at hl
    cases k with
    | zero => simp at h; subst h; exact hl.1
    | succ k => exact bareL_get hl.2 (by simpa using h)
theorem VR.bare {sn sn' : Snap} {ρ : Env} {x : AV} {v : Value} (h : VR sn ρ x v) : ∀ {ρ' : Env}, x.bare = true → VR sn' ρ' x v := by
  induction h with
  | any => intro _ _; exact .any _ _
  | bool => intro _ _; exact .bool _ _
  | int => intro _ _; exact .int _ _ _
  | str => intro _ _; exact .str _ _
  | nilptr => intro _ _; exact .nilptr _
  | ptr ρ r i j p h => intro _ hf; simp [AV.bare] at hf
  | cptr => intro _ hf; simp [AV.bare] at hf
  | view ρ full sz xs a b o c vs hl hm hf ha hz hc ho hr ih =>
    intro ρ' hfl
    have : xs = [] := by simpa [AV.bare] using hfl
    subst this
    exact .view _ full sz [] a b o c vs hl hm hf ha (by simp) (by simp) (by simp) (by simp)
  | sl => intro _ hf; simp [AV.bare] at hf
  | sl0 => intro _ hf; simp [AV.bare] at hf
  | rsl => intro _ hf; simp [AV.bare] at hf
  | nilchan => intro _ _; exact .nilchan _
  | chan => intro _ hf; simp [AV.bare] at hf
  | yfn => intro _ hf; simp [AV.bare] at hf
  | nilmap => intro _ _; exact .nilmap _
  | map => intro _ hf; simp [AV.bare] at hf
  | nilfunc => intro _ _; exact .nilfunc _
  | func => intro _ hf; simp [AV.bare] at hf
  | nilif => intro _ _; exact .nilif _
  | iface ρ t x y h ih => intro ρ' hf; simp only [AV.bare] at hf; exact .iface _ _ _ _ (ih hf)
  | agg ρ xs ys hs h ih => intro ρ' hf; simp only [AV.bare] at hf; exact .agg _ _ _ hs (fun k x y hx hy => ih k x y hx hy (bareL_get hf hx))
  | tuple ρ xs ys hs h ih => intro ρ' hf; simp only [AV.bare] at hf; exact .tuple _ _ _ hs (fun k x y hx hy => ih k x y hx hy (bareL_get hf hx))
theorem ACalls.reads {P : Program} {f : FuncId} {args args' : List AV} {v : AV} {H : Heap} (hv : v.bare = true) (hc : ACalls P f args' [] (fun o H => o = .ret v ∧ H = []))
    (ha : ∀ (sn : Snap) (ρ : Env) (w : World) (vs : Array Value), Rel sn ρ H w → VRs sn ρ args vs.toList → VRs (snapAll w) noEnv args' vs.toList) : ACalls P f args H (fun o H2 => o = .ret v ∧ H2 = H) := by
  intro sn ρ w vs hR hvs
  refine (hc (snapAll w) noEnv w vs (rel_all (hR.gl.mono hR.snap)) (ha sn ρ w vs hR hvs)).mono ?_
  rintro e w' ⟨sn', ρ', H', out, o1, R', E, rfl, rfl⟩
  have fr : ∀ b o, w.heap[b]? = some o → w'.heap[b]? = some o := fun b o hb => by
    rw [E.frame b (Array.getElem?_eq_some_iff.1 hb).1 (fun ⟨r, blk, p, h, _⟩ => by simp at h), hb]
  refine ⟨sn, ρ, H, .ret v, ?_, ⟨hR.gl, fun b o h => fr b o (hR.snap b o h), fun r blk p h1 h2 h3 => ?_, hR.inj, hR.top⟩, ⟨fun _ _ h => h, fun _ _ => rfl, Nat.le_refl _, fun _ _ h => h, E.below, E.os, E.tape, E.output, fun b hb _ => E.frame b hb (fun ⟨r, blk, p, h, _⟩ => by simp at h), fun b h => absurd rfl h, fun b h => .inr h⟩, rfl, rfl⟩
  · cases e with
    | returned cv => exact VR.bare (show VR sn' ρ' v cv from o1) hv
    | _ => exact o1.elim
  · obtain ⟨g1, o, g2, g3⟩ := hR.own r blk p h1 h2 h3
    exact ⟨g1, o, fr _ _ g2, g3⟩
theorem ACalls.lend {P : Program} {f : FuncId} {args : List AV} {v : AV} {H : Heap} (r : Nat) {sz : Nat} {xs : List (List AV)} (hv : v.bare = true) (h1 : H[r]? = some (.rows sz xs)) (h2 : ∀ row ∈ xs, ∀ x ∈ row, x.pure = true) (h3 : fzOkL r xs.length args) (hp : ltL 0 (fzL r sz xs args) = true)
    (hc : ACalls P f (fzL r sz xs args) [] (fun o H => o = .ret v ∧ H = [])) : ACalls P f args H (fun o H2 => o = .ret v ∧ H2 = H) := by
  refine ACalls.reads hv hc fun sn ρ w vs hR hvs => ?_
  refine ⟨by rw [fzL_map, List.length_map]; exact hvs.1, fun k x y hx hy => ?_⟩
  have hx' := hx
  rw [fzL_map, List.getElem?_map, Option.map_eq_some_iff] at hx
  obtain ⟨z, hz, rfl⟩ := hx
  exact (VR.fz hR h1 h2 (sn' := snapAll w) hR.snap (fun p _ => rfl) (hvs.2 k z y hz hy) rfl (fzOkL_get h3 hz)).pure (ltL_get hp hx')
theorem ACalls.fresh {P : Program} {f : FuncId} {args : List AV} {v v' : AV} {b : Blk} {H : Heap} (hc : ACalls P f args [] (fun o H => o = .ret v ∧ H = [b])) (ha : ltL 0 args = true) (hb : b.lt 0) (hv : v.ren (pi [] H.length) = v') : ACalls P f args H (fun o H2 => o = .ret v' ∧ H2 = H ++ [b]) := by
  refine hc.useE [] v' (H ++ [b]) List.nodup_nil rfl (by simp) rfl (renL_pure' ha).symm hv ?_
  simp [patch, setMany, bren_lt (m := 0) (fun k hk => absurd hk (Nat.not_lt_zero k)) hb]
end Go.AM
set_option maxRecDepth 100000
set_option linter.unusedVariables false
set_option linter.unusedSimpArgs false
namespace Go.Proofs.YtfiflailjbmlpaaGreatDoor
open Go.AM
instance (n : Int) : Decidable (I64 n) := by unfold I64; exact inferInstance
theorem wf0 {r : Rg} (h : (r.pc :: r.list).all (fun x => decide (I64 x)) = true) : r.wf := by
  simp only [List.all_eq_true, decide_eq_true_eq] at h
  exact ⟨fun x hx => h x (List.mem_cons_of_mem _ hx), h _ (List.mem_cons_self ..)⟩
end Go.Proofs.YtfiflailjbmlpaaGreatDoor
set_option maxRecDepth 100000
set_option linter.unusedVariables false
set_option linter.unusedSimpArgs false
namespace Go.Proofs.YtfiflailjbmlpaaGreatDoor
open Go.AM
theorem ops35 {op : Int} (h : isOp op = true) : op = 76 ∨ op = 1 ∨ op = 2 ∨ op = 3 ∨ op = 4 ∨ op = 5 ∨ op = 6 ∨ op = 7 ∨ op = 8 ∨ op = 9 ∨ op = 10 ∨ op = 11 ∨ op = 12 ∨ op = 13 ∨ op = 14 ∨ op = 15 ∨ op = 16 ∨ op = 17 ∨ op = 18 ∨ op = 19 ∨ op = 20 ∨ op = 21 ∨ op = 22 ∨ op = 23 ∨ op = 24 ∨ op = 25 ∨ op = 26 ∨ op = 27 ∨ op = 28 ∨ op = 29 ∨ op = 30 ∨ op = 31 ∨ op = 32 ∨ op = 33 ∨ op = 34 := by
  rcases opcases h with h | ⟨k, h1, h2, h3⟩ <;> omega
theorem exec_f {x : Ins} {s : Sp} {r : Rg} (hf : ¬ (ffault s (foot x r)).kind = 0) : exec x s r = ⟨r, 0, [], ⟨3, 0, ffault s (foot x r)⟩, x⟩ := by
  unfold exec effect
  rw [if_pos hf]
  rfl
end Go.Proofs.YtfiflailjbmlpaaGreatDoor
set_option maxRecDepth 100000
set_option linter.unusedVariables false
set_option linter.unusedSimpArgs false
namespace Go.Proofs.YtfiflailjbmlpaaGreatDoor
open Go.AM
theorem ba_eq (a b : List UInt8) : ((⟨a.toArray⟩ : ByteArray).toList == (⟨b.toArray⟩ : ByteArray).toList) = decide (a = b) := by
  rw [ByteArray.toList_eq, ByteArray.toList_eq]
  by_cases h : a = b <;> simp [h]
def sameR (a b : Rg) : Bool := decide (a.r0 = b.r0) && (decide (a.r1 = b.r1) && (decide (a.r2 = b.r2) && (decide (a.r3 = b.r3) && (decide (a.r4 = b.r4) && (decide (a.r5 = b.r5) && (decide (a.r6 = b.r6) && (decide (a.r7 = b.r7) && decide (a.pc = b.pc))))))))
def sameT (a b : Trp) : Bool := decide (a.kind = b.kind) && (decide (a.n = b.n) && (decide (a.f.kind = b.f.kind) && decide (a.f.pos = b.f.pos)))
def sameI (a b : Ins) : Bool := decide (a.op = b.op) && (decide (a.a = b.a) && (decide (a.b = b.b) && decide (a.imm = b.imm)))
def sameE (a b : Eff) : Bool := sameR a.rg b.rg && decide (a.pos = b.pos) && decide (a.data = b.data) && sameT a.trap b.trap && sameI a.x b.x
theorem sameE_self (a : Eff) : sameE a a = true := by simp [sameE, sameR, sameT, sameI]
theorem rSame_c (a b : Eff) : ACalls Tryz.prog 13 [a.av, b.av] [] (fun o H => o = .ret (.bool (sameE a b)) ∧ H = []) := by
  refine ACalls.up ?_
  refine ACalls.intro (cs := []) (n := 40) Tryz.func13 rfl rfl rfl (by kernel_rfl) rfl ?_
  generalize hpost : (fun (o : Out) (H : Heap) => o = Out.ret (.bool (sameE a b)) ∧ H = []) = post
  have fin : ∀ v H, v = sameE a b → Up 0 post (.ret (.bool v)) H := fun v H h => finv rfl (by rw [← hpost, ← h]; exact ⟨rfl, rfl⟩) H
  simp only [go_sem,Eff.av,Eff.cells,Eff.cellsD]
  repeat' (first | (refine gD_dec (fun hg => ?_) (fun hg => ?_) <;> simp only [go_sem,hg,ba_eq]) | (refine condD_dec (fun hg => ?_) (fun hg => ?_) <;> simp only [go_sem,hg,ba_eq]) | (refine gD_bool (fun hg => ?_) (fun hg => ?_) <;> simp only [go_sem,hg,ba_eq]) | (refine condD_bool (fun hg => ?_) (fun hg => ?_) <;> simp only [go_sem,hg,ba_eq]))
  all_goals exact fin _ _ (by simp only [sameE, sameR, sameT, sameI, Bool.false_and, Bool.and_false, Bool.true_and, Bool.and_true, decide_true, decide_false, *])
end Go.Proofs.YtfiflailjbmlpaaGreatDoor
set_option maxRecDepth 100000
set_option linter.unusedVariables false
set_option linter.unusedSimpArgs false
namespace Go.Proofs.YtfiflailjbmlpaaGreatDoor
open Go.AM
def Rg.at' (r : Rg) (v : Int) : Rg := { r with pc := v }
def Eff.at' (e : Eff) (v : Int) : Eff := { e with rg := e.rg.at' v }
theorem eff_ok {x : Ins} {s : Sp} {r : Rg} (hf : (ffault s (foot x r)).kind = 0) : effect x s r =
    (if isAlu x.op = true then (match alu x.op (r.get x.a) (r.get x.b) with
    | none => .tr ⟨5, 0, ⟨0, 0⟩⟩ (Pr.p1 x s r)
    | some v => .ok ((Pr.p1 x s r).setA v) [])
  else if 21 ≤ x.op ∧ x.op ≤ 25 then .ok (if taken x r = true then (Pr.p1 x s r).toPc (iw .i64 ((Pr.p1 x s r).next + x.imm)) else Pr.p1 x s r) []
  else if x.op = 26 then .ok ((Pr.p1 x s r).toPc (r.get x.a)) []
  else tabR (Pr.p1 x s r)) := by
  unfold effect
  rw [if_neg (by simp [hf])]
  all_goals (cases alu x.op (r.get x.a) (r.get x.b) <;> rfl)
end Go.Proofs.YtfiflailjbmlpaaGreatDoor
set_option maxRecDepth 100000
set_option linter.unusedVariables false
set_option linter.unusedSimpArgs false
namespace Go.Proofs.YtfiflailjbmlpaaGreatDoor
open Go.AM
def setL (l : List Int) (k : Nat) : List Int := ((List.range k).filter fun r : Nat => decide ((r : Int) ∈ l)).map fun r : Nat => (r : Int)
theorem mem_setL {l : List Int} {k : Nat} {n : Int} : n ∈ setL l k ↔ n ∈ l ∧ 0 ≤ n ∧ n < k := by
  simp only [setL, List.mem_map, List.mem_filter, List.mem_range, decide_eq_true_eq]
  constructor
  · rintro ⟨r, ⟨h1, h2⟩, rfl⟩; exact ⟨h2, by omega, by omega⟩
  · rintro ⟨h1, h2, h3⟩; exact ⟨n.toNat, ⟨by omega, by rwa [Int.toNat_of_nonneg h2]⟩, Int.toNat_of_nonneg h2⟩
def wrL (x : Ins) : List Int :=
  if x.ok then
    if x.op = 2 ∨ x.op = 3 ∨ x.op = 4 ∨ x.op = 32 ∨ x.op = 16 ∨ x.op = 17 ∨ x.op = 18 ∨ x.op = 34 then setL [x.a] 8
    else if x.op = 27 ∨ x.op = 28 ∨ x.op = 30 ∨ x.op = 29 then setL [7] 8
    else if x.op = 31 then setL [x.a, 7] 8
    else if 5 ≤ x.op ∧ x.op ≤ 15 then setL [x.a] 8 else []
  else []
def inL (l : List Int) (n : Int) : Bool := decide (n ∈ l)
end Go.Proofs.YtfiflailjbmlpaaGreatDoor
set_option maxRecDepth 100000
set_option linter.unusedVariables false
set_option linter.unusedSimpArgs false
namespace Go.Proofs.YtfiflailjbmlpaaGreatDoor
open Go.AM
theorem stL_ne (n : Nat) (v : Int) : stL (n + 1) v ≠ [] := fun h => by
  have := congrArg List.length h
  rw [stL_len] at this
  simp at this
structure Frame (x : Ins) (r : Rg) (e : Eff) : Prop where
  reg : ∀ i : Nat, i < 8 → (¬ e.trap.kind = 0 ∨ inL (wrL x) i = false) → e.rg.get i = r.get i
  pc : ¬ e.trap.kind = 0 → ¬ e.trap.kind = 1 → e.rg.pc = r.pc
  dat : ¬ e.trap.kind = 0 → e.data = []
  pos0 : e.data = [] → e.pos = 0
  acc : ¬ e.data = [] → ∃ a ∈ foot x r, a.write = true ∧ a.pos = e.pos ∧ a.size = e.data.length
theorem in1 {a i : Int} (h : inL (setL [a] 8) i = false) (h0 : 0 ≤ i) (h8 : i < 8) : ¬ a = i := by
  simp [inL, mem_setL] at h
  omega
theorem in2 {a b i : Int} (h : inL (setL [a, b] 8) i = false) (h0 : 0 ≤ i) (h8 : i < 8) : ¬ a = i ∧ ¬ b = i := by
  simp [inL, mem_setL] at h
  omega
theorem get_set {r : Rg} {a v : Int} {i : Nat} (hi : i < 8) (h : ¬ a = i) : (r.set a v).get i = r.get i := by
  have : i = 0 ∨ i = 1 ∨ i = 2 ∨ i = 3 ∨ i = 4 ∨ i = 5 ∨ i = 6 ∨ i = 7 := by omega
  rcases this with rfl | rfl | rfl | rfl | rfl | rfl | rfl | rfl <;> simp at h <;> simp [Rg.get, Rg.set, Rg.list, h]
theorem frame {x : Ins} {s : Sp} {r : Rg} (hx : x.ok) (hr : r.wf) : Frame x r (exec x s r) := by
  by_cases hf : (ffault s (foot x r)).kind = 0
  · have ho := ops35 hx.op
    have hw : wrL x = _ := if_pos hx
    have him := swap_imm hx
    unfold exec
    rw [eff_ok hf]
    obtain ⟨op, a, b, imm⟩ := x
    simp only at ho
    cases hal : alu op (r.get a) (r.get b)
    all_goals cases htk : taken ⟨op, a, b, imm⟩ r
    all_goals rcases ho with rfl | rfl | rfl | rfl | rfl | rfl | rfl | rfl | rfl | rfl | rfl | rfl | rfl | rfl | rfl | rfl | rfl | rfl | rfl | rfl | rfl | rfl | rfl | rfl | rfl | rfl | rfl | rfl | rfl | rfl | rfl | rfl | rfl | rfl | rfl
    all_goals simp [isAlu, tabR, Res.eff, Pr.setA, Pr.toPc, Pr.p1, Pr.start, Pr.set7, hal, htk] at hw him ⊢
    all_goals refine ⟨fun i hi h => ?_, fun h1 h2 => ?_, fun h => ?_, fun h => ?_, fun h => ?_⟩
    all_goals first
      | rfl
      | (simp at h; done)
      | (simp at h1; done)
      | (simp at h2; done)
      | (simp [hw] at h
         exact get_set hi (in1 h (by omega) (by omega)))
      | (simp [hw] at h
         exact (get_set hi (in2 h (by omega) (by omega)).1).trans (get_set (a := 7) (r := { r with pc := _ }) hi (in2 h (by omega) (by omega)).2))
      | (simp [stL_ne] at h; done)
      | (simp [foot, stL_len]; done)
      | (simp [foot, stL_len, him]
         have h1 := hr.get b
         unfold I64 at h1
         exact iw64 (by omega) (by omega))
      | skip
    all_goals skip
  · rw [exec_f hf]
    exact ⟨fun i _ _ => rfl, fun _ _ => rfl, fun _ => rfl, fun _ => rfl, fun h => absurd rfl h⟩
end Go.Proofs.YtfiflailjbmlpaaGreatDoor
set_option maxRecDepth 100000
set_option linter.unusedVariables false
set_option linter.unusedSimpArgs false
namespace Go.Proofs.YtfiflailjbmlpaaGreatDoor
open Go.AM
theorem Dec.bare (d : Dec) : d.av.bare = true := rfl
theorem fet_zero (s : Sp) (pos : Int) (i : Nat) : s.fet pos 0 i = [] := rfl
theorem fet_succ (s : Sp) (pos : Int) (m i : Nat) : s.fet pos (m + 1) i = if s.has (iw .i64 (pos + i)) = true ∧ s.pm (iw .i64 (pos + i)) = 4 then (s.byt[(iw .i64 (pos + i)).toNat]?).getD 0 :: s.fet pos m (i + 1) else [] := rfl
end Go.Proofs.YtfiflailjbmlpaaGreatDoor
set_option maxRecDepth 100000
set_option linter.unusedVariables false
set_option linter.unusedSimpArgs false
namespace Go.Proofs.YtfiflailjbmlpaaGreatDoor
open Go.AM
def Sp.put (s : Sp) (k : Nat) (c : UInt8) : Sp := ⟨s.perm, s.byt.set k c⟩
theorem put_has (s : Sp) (k : Nat) (c : UInt8) (x : Int) : (s.put k c).has x = s.has x := by simp [Sp.has, Sp.put]
theorem put_pm (s : Sp) (k : Nat) (c : UInt8) (x : Int) : (s.put k c).pm x = s.pm x := rfl
theorem put_ok {s : Sp} {k : Nat} {c : UInt8} (h : s.ok) : (s.put k c).ok := ⟨h.p32, by simp [Sp.put, h.len], h.all⟩
theorem byt_len {s : Sp} (h : s.ok) : s.byt.length ≤ 2048 := by have := h.p32; have := h.len; omega
theorem fet_put (s : Sp) (hs : s.ok) (k : Nat) (c : UInt8) (pos : Int) (h0 : 0 ≤ pos) (h1 : pos ≤ 2048) : ∀ (m i : Nat), i + m ≤ 12 →
    (s.put k c).fet pos m i = if pos + i ≤ k then (s.fet pos m i).set ((k : Int) - pos - i).toNat c else s.fet pos m i
  | 0, i, _ => by simp [fet_zero]
  | m + 1, i, hm => by
    have e : iw .i64 (pos + i) = pos + i := iw64 (by omega) (by omega)
    rw [fet_succ, fet_succ, put_has, put_pm, e]
    by_cases hc : s.has (pos + i) = true ∧ s.pm (pos + i) = 4
    · rw [if_pos hc, if_pos hc, fet_put s hs k c pos h0 h1 m (i + 1) (by omega)]
      obtain ⟨b, b1, b2, b3⟩ := Sp.byt_at hc.1
      have hb : (s.put k c).byt[(pos + i).toNat]? = if k = (pos + i).toNat then some c else some b := by
        simp only [Sp.put, List.getElem?_set]
        by_cases hk : k = (pos + i).toNat
        · rw [if_pos hk, if_pos hk, if_pos (by omega)]
        · rw [if_neg hk, if_neg hk, b1]
      rw [hb, b1]
      rcases Int.lt_trichotomy (k : Int) (pos + i) with hk | hk | hk
      · rw [if_neg (by omega), if_neg (by omega), if_neg (by omega)]
      · rw [if_pos (by omega), if_neg (by omega), if_pos (by omega), show ((k : Int) - pos - i).toNat = 0 by omega]
        rfl
      · obtain ⟨t, ht⟩ : ∃ t, ((k : Int) - pos - i).toNat = t + 1 := ⟨((k : Int) - pos - i).toNat - 1, by omega⟩
        rw [if_neg (by omega), if_pos (by omega), if_pos (by omega), ht, show ((k : Int) - pos - ((i + 1 : Nat) : Int)).toNat = t by omega]
        rfl
    · rw [if_neg hc, if_neg hc]; simp
theorem scan_set (wide : Bool) (b : List UInt8) (n j : Nat) (c : UInt8) : ∀ (m i : Nat), j < i ∨ i + m ≤ j → scan wide (b.set j c) n m i = scan wide b n m i
  | 0, _, _ => rfl
  | m + 1, i, h => by
    rw [scan, scan, List.getElem?_set_ne (by omega), scan_set wide b n j c m (i + 1) (by omega)]
theorem scan_bad (wide : Bool) (b : List UInt8) (n j : Nat) (c : UInt8) (hc : 128 ≤ (c.toNat : Int)) : ∀ (m i : Nat), scan wide b n m i = 20 → scan wide (b.set j c) n m i = 20
  | 0, _, h => by cases h
  | m + 1, i, h => by
    rw [scan] at h ⊢
    by_cases hj : j = i
    · subst hj
      cases hb : b[j]? with
      | none => rw [hb] at h; cases h
      | some d =>
        rw [List.getElem?_set_self (List.getElem?_eq_some_iff.1 hb).1]
        simp only
        rw [if_pos (.inl hc)]
    · rw [List.getElem?_set_ne hj]
      cases hb : b[i]? with
      | none => rw [hb] at h; cases h
      | some d =>
        rw [hb] at h
        simp only at h ⊢
        split at h
        · rename_i h1; rw [if_pos h1]
        · rename_i h1; rw [if_neg h1]; exact scan_bad wide b n j c hc m (i + 1) h
theorem take_set {α : Type} {l : List α} {n j : Nat} {c : α} (h : n ≤ j) : (l.set j c).take n = l.take n := by
  apply List.ext_getElem?
  intro i
  rw [List.getElem?_take, List.getElem?_take]
  split
  · rw [List.getElem?_set_ne (by omega)]
  · rfl
theorem decB_set {b : List UInt8} {op a b' : Int} {k j : Nat} {c : UInt8} (hk : k ≤ flen (kform op)) (hj : flen (kform op) ≤ j) : decB (b.set j c) op a b' k = decB b op a b' k := by
  unfold decB
  rw [scan_set _ _ _ _ _ _ _ (.inr (by omega)), take_set hj]
theorem decB_bad {b : List UInt8} {op a b' : Int} {k j : Nat} {c : UInt8} (hc : 128 ≤ (c.toNat : Int)) (h : (decB b op a b' k).e = 20) : (decB (b.set j c) op a b' k).e = 20 := by
  unfold decB at h ⊢
  split at h
  · cases h
  · rename_i hs
    have h2 := scan_bad (decide (kform op = 3)) b (flen (kform op)) j c hc _ _ (show scan _ b _ _ k = 20 from h)
    rw [if_neg (by rw [h2]; decide)]
    exact h2
theorem decB_n {b : List UInt8} {op a b' : Int} {k : Nat} (h : (decB b op a b' k).e = 0) : (decB b op a b' k).n = flen (kform op) := by
  unfold decB at h ⊢
  split
  · rfl
  · rename_i hs; rw [if_neg hs] at h; exact absurd h hs
theorem dec_set {b : List UInt8} {j : Nat} {c : UInt8} (he : (dec b).e = 0) (hj : (dec b).n ≤ j) : dec (b.set j c) = dec b := by
  rcases b with _ | ⟨b0, rest⟩
  · cases he
  rw [dec_cons] at he hj
  by_cases ho : isOp ((b0.toNat : Int) - 128) = true
  · rw [if_pos ho] at he hj
    have hsp := flen_split (kform ((b0.toNat : Int) - 128))
    by_cases hA : hasA (kform ((b0.toNat : Int) - 128)) = true
    · rw [if_pos hA] at he hj hsp
      rcases rest with _ | ⟨b1, rest⟩
      · cases he
      · simp only at he hj
        by_cases hB : hasB (kform ((b0.toNat : Int) - 128)) = true
        · rw [if_pos hB] at he hj
          by_cases h64 : 64 ≤ (b1.toNat : Int)
          · rw [if_pos h64] at he; cases he
          · rw [if_neg h64] at he hj
            rw [decB_n he] at hj
            obtain ⟨t, rfl⟩ : ∃ t, j = t + 2 := ⟨j - 2, by omega⟩
            show dec (b0 :: b1 :: rest.set t c) = _
            rw [dec_cons, dec_cons, if_pos ho, if_pos ho, if_pos hA, if_pos hA]
            simp only
            rw [if_pos hB, if_pos hB, if_neg h64, if_neg h64]
            exact decB_set (b := b0 :: b1 :: rest) (j := t + 2) (by omega) hj
        · rw [if_neg hB] at he hj
          by_cases h64 : 8 ≤ (b1.toNat : Int)
          · rw [if_pos h64] at he; cases he
          · rw [if_neg h64] at he hj
            rw [decB_n he] at hj
            obtain ⟨t, rfl⟩ : ∃ t, j = t + 2 := ⟨j - 2, by omega⟩
            show dec (b0 :: b1 :: rest.set t c) = _
            rw [dec_cons, dec_cons, if_pos ho, if_pos ho, if_pos hA, if_pos hA]
            simp only
            rw [if_neg hB, if_neg hB, if_neg h64, if_neg h64]
            exact decB_set (b := b0 :: b1 :: rest) (j := t + 2) (by omega) hj
    · rw [if_neg hA] at he hj hsp
      rw [decB_n he] at hj
      obtain ⟨t, rfl⟩ : ∃ t, j = t + 1 := ⟨j - 1, by omega⟩
      show dec (b0 :: rest.set t c) = _
      rw [dec_cons, dec_cons, if_pos ho, if_pos ho, if_neg hA, if_neg hA]
      exact decB_set (b := b0 :: rest) (j := t + 1) (by omega) hj
  · rw [if_neg ho] at he; cases he
theorem dec_bad {b : List UInt8} {j : Nat} {c : UInt8} (hc : 128 ≤ (c.toNat : Int)) (h1 : 1 ≤ j) (he : (dec b).e = 20) : (dec (b.set j c)).e = 20 := by
  rcases b with _ | ⟨b0, rest⟩
  · cases he
  obtain ⟨t, rfl⟩ : ∃ t, j = t + 1 := ⟨j - 1, by omega⟩
  show (dec (b0 :: rest.set t c)).e = 20
  rw [dec_cons] at he ⊢
  by_cases ho : isOp ((b0.toNat : Int) - 128) = true
  · rw [if_pos ho] at he ⊢
    by_cases hA : hasA (kform ((b0.toNat : Int) - 128)) = true
    · rw [if_pos hA] at he ⊢
      rcases rest with _ | ⟨b1, rest⟩
      · cases he
      · simp only at he
        cases t with
        | zero =>
          simp only [List.set_cons_zero]
          by_cases hB : hasB (kform ((b0.toNat : Int) - 128)) = true
          · rw [if_pos hB, if_pos (by omega)]; rfl
          · rw [if_neg hB, if_pos (by omega)]; rfl
        | succ t =>
          simp only [List.set_cons_succ]
          by_cases hB : hasB (kform ((b0.toNat : Int) - 128)) = true
          · rw [if_pos hB] at he ⊢
            by_cases h64 : 64 ≤ (b1.toNat : Int)
            · rw [if_pos h64]; rfl
            · rw [if_neg h64] at he ⊢
              exact decB_bad (b := b0 :: b1 :: rest) (j := t + 2) hc he
          · rw [if_neg hB] at he ⊢
            by_cases h64 : 8 ≤ (b1.toNat : Int)
            · rw [if_pos h64]; rfl
            · rw [if_neg h64] at he ⊢
              exact decB_bad (b := b0 :: b1 :: rest) (j := t + 2) hc he
    · rw [if_neg hA] at he ⊢
      exact decB_bad (b := b0 :: rest) (j := t + 1) hc he
  · rw [if_neg ho]; rfl
end Go.Proofs.YtfiflailjbmlpaaGreatDoor
set_option maxRecDepth 100000
set_option linter.unusedVariables false
set_option linter.unusedSimpArgs false
namespace Go.Proofs.YtfiflailjbmlpaaGreatDoor
open Go.AM
theorem clone_int_c (l : List Int) (full : Bool) (hl : l.length ≤ 1000) : ACalls Tryz.prog 105 [.view full 1 (l.map r1)] [] (fun o H => o = .ret (.view false 1 (l.map r1)) ∧ H = []) := by
  refine ACalls.up ?_
  refine ACalls.intro (cs := []) (n := 8) Tryz.func105 rfl rfl rfl (by kernel_rfl) rfl ?_
  simp only [go_sem,rK_ndb]
  intro b hb
  refine condD_split (fun e => ?_) (fun e => ?_)
  · have hl0 : l = [] := by
      rw [List.length_map] at hb
      rcases l with _ | ⟨x, l⟩
      · rfl
      · have := hb (by simp); rw [e] at this; cases this
    subst hl0
    simp only [go_sem]
    exact .le (.ret (.nil _ _ 0 1 (by simp))) .nil (.done ⟨rfl, rfl⟩)
  · simp only [go_sem,List.length_map]
    refine ⟨by omega, ?_⟩
    simp only [go_sem]
    refine .fz 1 1 (l.map r1) rfl (r1_pure l) (by simp [Out.fzOk, AV.fzOk]) (by simp [Blk.fzOk]) ?_
    refine .gc 0 (Nat.le_refl _) (Nat.zero_le _) (by simp [Out.fz, AV.fz, Out.lt, AV.lt]) (by simp) (.done ⟨?_, rfl⟩)
    simp [Out.fz, AV.fz]
    rw [List.take_of_length_le (by simp)]
def spB (p : AV) (b : AV) : Blk := .rows 2 [[p, b]]
end Go.Proofs.YtfiflailjbmlpaaGreatDoor
set_option maxRecDepth 100000
set_option linter.unusedVariables false
set_option linter.unusedSimpArgs false
namespace Go.Proofs.YtfiflailjbmlpaaGreatDoor
open Go.AM
def Sp.wr (s : Sp) (pos : Nat) (b : List UInt8) : Sp := ⟨s.perm, s.byt.take pos ++ b ++ s.byt.drop (pos + b.length)⟩
end Go.Proofs.YtfiflailjbmlpaaGreatDoor
set_option maxRecDepth 100000
set_option linter.unusedVariables false
set_option linter.unusedSimpArgs false
namespace Go.Proofs.YtfiflailjbmlpaaGreatDoor
open Go.AM
structure Fits (s : Sp) (e : Eff) : Prop where
  len : e.data.length ≤ 8
  pos : e.data.length = 0 → e.pos = 0
  trap : 0 < e.data.length → e.trap.kind = 0
  flt : (s.flt e.pos 2 e.data.length 0).kind = 0
def sp0 : Sp := ⟨[], []⟩
open Classical in
noncomputable def applyR (s : Sp) (e : Eff) : Sp × Int := if s.ok then (if Fits s e then (s.wr e.pos.toNat e.data, 0) else (sp0, 40)) else (sp0, 30)
end Go.Proofs.YtfiflailjbmlpaaGreatDoor
set_option maxRecDepth 100000
set_option linter.unusedVariables false
set_option linter.unusedSimpArgs false
namespace Go.Proofs.YtfiflailjbmlpaaGreatDoor
open Go.AM
theorem scan_small (wide : Bool) (b : List UInt8) (n : Nat) : ∀ (m i : Nat), scan wide b n m i ≠ 20 → ∀ j, i ≤ j → j < i + m → ∀ d, b[j]? = some d → (d.toNat : Int) < 128
  | 0, i, _, j, h1, h2, d, _ => by omega
  | m + 1, i, h, j, h1, h2, d, hd => by
    rw [scan] at h
    cases hb : b[i]? with
    | none =>
      have := List.getElem?_eq_none_iff.1 hb
      have := (List.getElem?_eq_some_iff.1 hd).1
      omega
    | some c =>
      rw [hb] at h
      simp only at h
      split at h
      · exact absurd rfl h
      · rename_i hc
        rcases Nat.eq_or_lt_of_le h1 with rfl | h3
        · rw [hb] at hd
          cases hd
          omega
        · exact scan_small wide b n m (i + 1) h j h3 (by omega) d hd
theorem scan_none (wide : Bool) (b : List UInt8) (n : Nat) : ∀ (m i : Nat), scan wide b n m i = 21 → b.length < i + m
  | 0, i, h => by cases h
  | m + 1, i, h => by
    rw [scan] at h
    cases hb : b[i]? with
    | none => have := List.getElem?_eq_none_iff.1 hb; omega
    | some c =>
      rw [hb] at h
      simp only at h
      split at h
      · cases h
      · have := scan_none wide b n m (i + 1) h; omega
theorem decB_small {b : List UInt8} {op a b' : Int} {k : Nat} (h : (decB b op a b' k).e ≠ 20) (j : Nat) (hk : k ≤ j) (hj : j < (decB b op a b' k).n ∨ (decB b op a b' k).e = 21) (d : UInt8) (hd : b[j]? = some d) : (d.toNat : Int) < 128 := by
  unfold decB at h hj
  have hl := (List.getElem?_eq_some_iff.1 hd).1
  split at h
  · rename_i h0
    rw [if_pos h0] at hj
    have hj2 : j < flen (kform op) := by
      rcases hj with hj | hj
      · exact hj
      · exact absurd (show (0 : Int) = 21 from hj) (by decide)
    exact scan_small _ b _ _ k (by rw [h0]; decide) j hk (by omega) d hd
  · rename_i h0
    rw [if_neg h0] at hj
    have h1 : scan (decide (kform op = 3)) b (flen (kform op)) (flen (kform op) - k) k ≠ 20 := h
    rcases hj with hj | hj
    · exact absurd hj (Nat.not_lt_zero _)
    · have := scan_none _ b _ _ k (show scan (decide (kform op = 3)) b (flen (kform op)) (flen (kform op) - k) k = 21 from hj)
      exact scan_small _ b _ _ k h1 j hk (by omega) d hd
theorem dec_small {b : List UInt8} (h : (dec b).e ≠ 20) (j : Nat) (h1 : 1 ≤ j) (hj : j < (dec b).n ∨ (dec b).e = 21) (d : UInt8) (hd : b[j]? = some d) : (d.toNat : Int) < 128 := by
  rcases b with _ | ⟨b0, rest⟩
  · simp at hd
  rw [dec_cons] at h hj
  split at h
  · rename_i ho
    rw [if_pos ho] at hj
    split at h
    · rename_i hA
      rw [if_pos hA] at hj
      rcases rest with _ | ⟨b1, rest⟩
      · obtain ⟨t, rfl⟩ : ∃ t, j = t + 1 := ⟨j - 1, by omega⟩
        simp at hd
      · simp only at h hj
        split at h
        · rename_i hB
          rw [if_pos hB] at hj
          split at h
          · exact absurd rfl h
          · rename_i h64
            rw [if_neg h64] at hj
            rcases Nat.eq_or_lt_of_le h1 with rfl | h2
            · simp at hd
              subst hd
              omega
            · exact decB_small h j h2 hj d hd
        · rename_i hB
          rw [if_neg hB] at hj
          split at h
          · exact absurd rfl h
          · rename_i h64
            rw [if_neg h64] at hj
            rcases Nat.eq_or_lt_of_le h1 with rfl | h2
            · simp at hd
              subst hd
              omega
            · exact decB_small h j h2 hj d hd
    · rename_i hA
      rw [if_neg hA] at hj
      exact decB_small h j h1 hj d hd
  · exact absurd rfl h
theorem dec_head {b0 : UInt8} {rest : List UInt8} (h : (dec (b0 :: rest)).e ≠ 20) : 128 ≤ (b0.toNat : Int) := by
  rw [dec_cons] at h
  split at h
  · rename_i ho
    simp only [isOp, Bool.or_eq_true, Bool.and_eq_true, decide_eq_true_eq] at ho
    omega
  · exact absurd rfl h
theorem dec_swap {b : List UInt8} {j : Nat} {c d : UInt8} (hd : b[j]? = some d) (h1 : 1 ≤ j) (hd8 : 128 ≤ (d.toNat : Int)) (hc : 128 ≤ (c.toNat : Int)) :
    (dec (b.set j c)).e = (dec b).e ∧ ((dec b).e = 0 → dec (b.set j c) = dec b) := by
  rcases dec_e b with he | he | he
  · have hj : (dec b).n ≤ j := by
      refine Nat.le_of_not_lt fun h => ?_
      have := dec_small (by rw [he]; decide) j h1 (.inl h) d hd
      omega
    rw [dec_set he hj]
    exact ⟨rfl, fun _ => rfl⟩
  · rw [dec_bad hc h1 he, he]
    exact ⟨rfl, fun h => absurd h (by decide)⟩
  · have := dec_small (by rw [he]; decide) j h1 (.inr he) d hd
    omega
theorem fet_at (s : Sp) (pos : Int) : ∀ (m i j : Nat) (d : UInt8), (s.fet pos m i)[j]? = some d → s.byt[(iw .i64 (pos + (i + j : Nat))).toNat]? = some d ∧ s.has (iw .i64 (pos + (i + j : Nat))) = true ∧ s.pm (iw .i64 (pos + (i + j : Nat))) = 4
  | 0, i, j, d, h => by simp [fet_zero] at h
  | m + 1, i, j, d, h => by
    rw [fet_succ] at h
    split at h
    · rename_i hc
      obtain ⟨b, b1, _⟩ := Sp.byt_at hc.1
      cases j with
      | zero =>
        simp [b1] at h
        subst h
        exact ⟨b1, hc.1, hc.2⟩
      | succ j =>
        have := fet_at s pos m (i + 1) j d (by simpa using h)
        rw [show i + 1 + j = i + (j + 1) by omega] at this
        exact this
    · simp at h
theorem fet_out {s : Sp} {pos : Int} (hp : I64 pos) (h : ¬ (0 ≤ pos ∧ pos < s.byt.length)) : s.fet pos 12 0 = [] := by
  rw [fet_succ s pos 11 0, iw64 (by unfold I64 at hp; omega) (by unfold I64 at hp; omega), if_neg]
  intro hh
  have := hh.1
  simp only [Sp.has, Bool.and_eq_true, decide_eq_true_eq] at this
  omega
end Go.Proofs.YtfiflailjbmlpaaGreatDoor
set_option maxRecDepth 100000
set_option linter.unusedVariables false
set_option linter.unusedSimpArgs false
namespace Go.Proofs.YtfiflailjbmlpaaGreatDoor
open Go.AM
structure Pt where
  at_ : Int
  old : UInt8
  n : Int
structure Pd where
  s : Sp
  l : List Pt
def putL (f : Pt → UInt8) : List Pt → Sp → Sp
  | [], s => s
  | x :: l, s => putL f l (s.put x.at_.toNat (f x))
def Pd.clean (p : Pd) : Sp := putL Pt.old p.l p.s
def stand (s : Sp) (at_ : Int) : Dec := dec (s.fet at_ 12 0)
structure Pt.fits (s : Sp) (x : Pt) : Prop where
  a0 : 0 ≤ x.at_
  a1 : x.at_ < s.byt.length
  n1 : 1 ≤ x.n
  n2 : x.n ≤ 1000
  brk : s.byt[x.at_.toNat]? = some 204
structure Pd.ok (p : Pd) : Prop where
  sok : p.s.ok
  len : p.l.length ≤ 64
  sor : p.l.Pairwise (fun x y => x.at_ < y.at_)
  fits : ∀ x ∈ p.l, x.fits p.s
  std : ∀ x ∈ p.l, (stand p.clean x.at_).e = 0
theorem putL_perm (f : Pt → UInt8) : ∀ (l : List Pt) (s : Sp), (putL f l s).perm = s.perm
  | [], s => rfl
  | x :: l, s => putL_perm f l _
theorem putL_pm (f : Pt → UInt8) (l : List Pt) (s : Sp) (x : Int) : (putL f l s).pm x = s.pm x := by rw [Sp.pm, putL_perm, Sp.pm]
theorem putL_len (f : Pt → UInt8) : ∀ (l : List Pt) (s : Sp), (putL f l s).byt.length = s.byt.length
  | [], s => rfl
  | x :: l, s => (putL_len f l _).trans (by simp [Sp.put])
theorem putL_ok (f : Pt → UInt8) : ∀ (l : List Pt) {s : Sp}, s.ok → (putL f l s).ok
  | [], s, h => h
  | x :: l, s, h => putL_ok f l (put_ok h)
theorem putL_get_out (f : Pt → UInt8) : ∀ (l : List Pt) (s : Sp) (i : Nat), (∀ x ∈ l, x.at_.toNat ≠ i) → (putL f l s).byt[i]? = s.byt[i]?
  | [], s, i, h => rfl
  | x :: l, s, i, h => by
    rw [putL, putL_get_out f l _ i (fun y hy => h y (List.mem_cons_of_mem _ hy))]
    simp only [Sp.put]
    exact List.getElem?_set_ne (h x (List.mem_cons_self ..))
theorem putL_get_in (f : Pt → UInt8) : ∀ (l : List Pt) (s : Sp) (x : Pt), l.Pairwise (fun x y => x.at_ < y.at_) → (∀ y ∈ l, 0 ≤ y.at_ ∧ y.at_ < s.byt.length) → x ∈ l → (putL f l s).byt[x.at_.toNat]? = some (f x)
  | [], s, x, _, _, h => by cases h
  | y :: l, s, x, hp, hb, h => by
    rw [List.pairwise_cons] at hp
    rw [putL]
    have hy := hb y (List.mem_cons_self ..)
    rcases List.mem_cons.1 h with rfl | h
    · rw [putL_get_out f l _ _ (fun z hz => by have := hp.1 z hz; have := (hb z (List.mem_cons_of_mem _ hz)).1; omega)]
      simp only [Sp.put]
      exact List.getElem?_set_self (by omega)
    · exact putL_get_in f l _ x hp.2 (fun z hz => by have := hb z (List.mem_cons_of_mem _ hz); simpa [Sp.put] using this) h
theorem stand_at {s : Sp} {a : Int} (ha : I64 a) (h : (stand s a).e ≠ 21) : 0 ≤ a ∧ a < s.byt.length ∧ s.pm a = 4 ∧ ∃ d : UInt8, ∃ t, s.fet a 12 0 = d :: t ∧ s.byt[a.toNat]? = some d := by
  unfold stand at h
  cases hf : s.fet a 12 0 with
  | nil => rw [hf] at h; exact absurd rfl h
  | cons d t =>
    have := fet_at s a 12 0 0 d (by rw [hf]; rfl)
    rw [show a + ((0 + 0 : Nat) : Int) = a by omega, iw64 (by unfold I64 at ha; omega) (by unfold I64 at ha; omega)] at this
    obtain ⟨h1, h2, h3⟩ := this
    simp only [Sp.has, Bool.and_eq_true, decide_eq_true_eq] at h2
    exact ⟨h2.1, h2.2, h3, d, t, rfl, h1⟩
theorem Pd.ok.bounds {p : Pd} (h : p.ok) : ∀ y ∈ p.l, 0 ≤ y.at_ ∧ y.at_ < p.s.byt.length := fun y hy => ⟨(h.fits y hy).a0, (h.fits y hy).a1⟩
theorem Pd.ok.i64 {p : Pd} (h : p.ok) {y : Pt} (hy : y ∈ p.l) : I64 y.at_ := by
  have := h.bounds y hy
  have := byt_len h.sok
  unfold I64
  omega
theorem Pd.ok.cok {p : Pd} (h : p.ok) : p.clean.ok := putL_ok _ _ h.sok
theorem Pd.ok.cget {p : Pd} (h : p.ok) {y : Pt} (hy : y ∈ p.l) : p.clean.byt[y.at_.toNat]? = some y.old := putL_get_in _ _ _ _ h.sor h.bounds hy
theorem Pd.ok.pm {p : Pd} (h : p.ok) {y : Pt} (hy : y ∈ p.l) : p.s.pm (y.at_.toNat : Int) = 4 := by
  have := (stand_at (h.i64 hy) (by rw [h.std y hy]; decide)).2.2.1
  rw [Pd.clean, putL_pm] at this
  rw [Int.toNat_of_nonneg (h.bounds y hy).1]
  exact this
theorem Pd.ok.old {p : Pd} (h : p.ok) {y : Pt} (hy : y ∈ p.l) : 128 ≤ (y.old.toNat : Int) := by
  have hst := h.std y hy
  obtain ⟨_, _, _, d, t, h1, h2⟩ := stand_at (h.i64 hy) (by rw [hst]; decide)
  rw [h.cget hy] at h2
  cases h2
  unfold stand at hst
  rw [h1] at hst
  exact dec_head (rest := t) (by rw [hst]; decide)
end Go.Proofs.YtfiflailjbmlpaaGreatDoor
set_option maxRecDepth 100000
set_option linter.unusedVariables false
set_option linter.unusedSimpArgs false
namespace Go.Proofs.YtfiflailjbmlpaaGreatDoor
open Go.AM
def immD (i a b : Int) : Int := iw .i64 (i + iw .i64 (a - b))
def Ins.im' (x : Ins) (v : Int) : Ins := { x with imm := v }
def dispE (x : Ins) (a b : Int) : Ins × Int :=
  if x.op = 27 ∨ x.op = 28 ∨ x.op = 33 ∨ x.op = 76 then (x, 3)
  else if 21 ≤ x.op ∧ x.op ≤ 25 ∧ immD x.imm a b = 0 then (x, 3)
  else if 21 ≤ x.op ∧ x.op ≤ 25 ∨ x.op = 32 then (if (x.im' (immD x.imm a b)).ok then (x.im' (immD x.imm a b), 2) else (x, 3))
  else (x, 1)
theorem dispE_cases (x : Ins) (a b : Int) : ((dispE x a b).2 = 3 ∧ (dispE x a b).1 = x) ∨
    (dispE x a b = (x, 1) ∧ ¬ (x.op = 27 ∨ x.op = 28 ∨ x.op = 33 ∨ x.op = 76) ∧ ¬ (21 ≤ x.op ∧ x.op ≤ 25 ∨ x.op = 32)) ∨
    (dispE x a b = (x.im' (immD x.imm a b), 2) ∧ (x.im' (immD x.imm a b)).ok ∧ (21 ≤ x.op ∧ x.op ≤ 25 ∨ x.op = 32) ∧ (x.op ≤ 25 → immD x.imm a b ≠ 0)) := by
  unfold dispE
  split
  · exact .inl ⟨rfl, rfl⟩
  · rename_i h1
    split
    · exact .inl ⟨rfl, rfl⟩
    · rename_i h2
      split
      · rename_i h3
        split
        · rename_i h4
          exact .inr (.inr ⟨rfl, h4, h3, fun h h0 => h2 ⟨by omega, by omega, h0⟩⟩)
        · exact .inl ⟨rfl, rfl⟩
      · rename_i h3
        exact .inr (.inl ⟨rfl, h1, h3⟩)
def fixE (x : Ins) (n : Nat) (a b : Int) (f : Eff) : Eff :=
  ⟨f.rg.at' (if ¬ f.trap.kind = 0 then a else if (x.op ≠ 26 ∧ x.op ≠ 29) ∧ f.rg.pc = iw .i64 (b + n) then iw .i64 (a + n) else f.rg.pc), f.pos, f.data, f.trap, x⟩
end Go.Proofs.YtfiflailjbmlpaaGreatDoor
set_option maxRecDepth 100000
set_option linter.unusedVariables false
set_option linter.unusedSimpArgs false
namespace Go.Proofs.YtfiflailjbmlpaaGreatDoor
open Go.AM
def Pd.has (p : Pd) (a : Int) : Bool := p.l.any (fun y => decide (y.at_ = a))
theorem Pd.has_true {p : Pd} {a : Int} : p.has a = true ↔ ∃ y ∈ p.l, y.at_ = a := by simp [Pd.has]
theorem Pd.has_false {p : Pd} {a : Int} : p.has a = false ↔ ∀ y ∈ p.l, y.at_ ≠ a := by simp [Pd.has]
def Pd.stepE (p : Pd) (r : Rg) (slot : Int) : Eff × Int :=
  if p.has r.pc = true then
    (if (dispE (stand p.clean r.pc).x r.pc slot).2 = 3 then (exec (stand p.clean r.pc).x p.s r, 3)
     else (fixE (stand p.clean r.pc).x (stand p.clean r.pc).n r.pc slot (exec (dispE (stand p.clean r.pc).x r.pc slot).1 p.s (r.at' slot)), (dispE (stand p.clean r.pc).x r.pc slot).2))
  else (step p.s r, 0)
theorem stand_put {s : Sp} (hs : s.ok) {k : Nat} {c d : UInt8} (hd : s.byt[k]? = some d) (hd8 : 128 ≤ (d.toNat : Int)) (hc : 128 ≤ (c.toNat : Int)) {a : Int} (ha : I64 a) (hne : a ≠ k) :
    (stand (s.put k c) a).e = (stand s a).e ∧ ((stand s a).e = 0 → stand (s.put k c) a = stand s a) := by
  have hbl := byt_len hs
  unfold stand
  by_cases hin : 0 ≤ a ∧ a < s.byt.length
  · rw [fet_put s hs k c a hin.1 (by omega) 12 0 (by omega)]
    split
    · rename_i hle
      cases hg : (s.fet a 12 0)[((k : Int) - a - (0 : Nat)).toNat]? with
      | none =>
        rw [List.set_eq_of_length_le (List.getElem?_eq_none_iff.1 hg)]
        exact ⟨rfl, fun _ => rfl⟩
      | some e =>
        have h3 := (fet_at s a 12 0 _ e hg).1
        rw [show a + ((0 + ((k : Int) - a - (0 : Nat)).toNat : Nat) : Int) = k by omega, iw64 (by omega) (by have := (List.getElem?_eq_some_iff.1 hd).1; omega), Int.toNat_natCast, hd] at h3
        cases h3
        exact dec_swap hg (by omega) hd8 hc
    · exact ⟨rfl, fun _ => rfl⟩
  · rw [fet_out ha hin, fet_out ha (by simpa [Sp.put] using hin)]
    exact ⟨rfl, fun _ => rfl⟩
theorem stand_putL (f : Pt → UInt8) {a : Int} (ha : I64 a) : ∀ (l : List Pt) {s : Sp}, s.ok → (∀ y ∈ l, (∃ d : UInt8, s.byt[y.at_.toNat]? = some d ∧ 128 ≤ (d.toNat : Int)) ∧ 128 ≤ ((f y).toNat : Int) ∧ a ≠ y.at_.toNat) →
    (stand (putL f l s) a).e = (stand s a).e ∧ ((stand s a).e = 0 → stand (putL f l s) a = stand s a)
  | [], s, _, _ => ⟨rfl, fun _ => rfl⟩
  | y :: l, s, hs, h => by
    obtain ⟨⟨d, h2, h3⟩, h4, h5⟩ := h y (List.mem_cons_self ..)
    obtain ⟨q1, q2⟩ := stand_put hs h2 h3 h4 ha h5
    obtain ⟨q3, q4⟩ := stand_putL f ha l (s := s.put y.at_.toNat (f y)) (put_ok hs) (fun z hz => by
      obtain ⟨⟨e, g2, g3⟩, g4, g5⟩ := h z (List.mem_cons_of_mem _ hz)
      refine ⟨?_, g4, g5⟩
      by_cases hk : y.at_.toNat = z.at_.toNat
      · refine ⟨f y, ?_, h4⟩
        simp only [Sp.put]
        rw [hk]
        exact List.getElem?_set_self (List.getElem?_eq_some_iff.1 g2).1
      · refine ⟨e, ?_, g3⟩
        simp only [Sp.put]
        rw [List.getElem?_set_ne hk]
        exact g2)
    rw [putL]
    exact ⟨q3.trans q1, fun h0 => (q4 (by rw [q1]; exact h0)).trans (q2 h0)⟩
theorem Pd.ok.standC {p : Pd} (h : p.ok) {a : Int} (ha : I64 a) (hn : p.has a = false) : (stand p.clean a).e = (stand p.s a).e ∧ ((stand p.s a).e = 0 → stand p.clean a = stand p.s a) :=
  stand_putL _ ha _ h.sok (fun y hy => ⟨⟨204, (h.fits y hy).brk, by decide⟩, h.old hy, fun e => Pd.has_false.1 hn y hy (by have := (h.bounds y hy).1; omega)⟩)
theorem sorted_ext : ∀ {l m : List Pt}, l.Pairwise (fun x y => x.at_ < y.at_) → m.Pairwise (fun x y => x.at_ < y.at_) → (∀ y, y ∈ l ↔ y ∈ m) → l = m
  | [], [], _, _, _ => rfl
  | [], y :: m, _, _, h => by have := (h y).2 (List.mem_cons_self ..); cases this
  | x :: l, [], _, _, h => by have := (h x).1 (List.mem_cons_self ..); cases this
  | x :: l, y :: m, hl, hm, h => by
    rw [List.pairwise_cons] at hl hm
    have hxy : x = y := by
      rcases List.mem_cons.1 ((h x).1 (List.mem_cons_self ..)) with e | hx
      · exact e
      · rcases List.mem_cons.1 ((h y).2 (List.mem_cons_self ..)) with e | hy
        · exact e.symm
        · have := hl.1 y hy
          have := hm.1 x hx
          omega
    subst hxy
    rw [sorted_ext hl.2 hm.2 (fun z => ?_)]
    have hz := h z
    simp only [List.mem_cons] at hz
    constructor
    · intro q
      rcases hz.1 (.inr q) with e | e
      · subst e; have := hl.1 z q; omega
      · exact e
    · intro q
      rcases hz.2 (.inr q) with e | e
      · subst e; have := hm.1 z q; omega
      · exact e
theorem Sp.ext2 {s t : Sp} (h1 : s.perm = t.perm) (h2 : ∀ i : Nat, s.byt[i]? = t.byt[i]?) : s = t := by
  obtain ⟨a, b⟩ := s
  obtain ⟨c, d⟩ := t
  simp only at h1 h2
  subst h1
  rw [List.ext_getElem? h2]
theorem Pd.ext' {p q : Pd} (hp : p.ok) (hq : q.ok) (hc : p.clean = q.clean) (hl : ∀ y, y ∈ p.l ↔ y ∈ q.l) : p = q := by
  have e : p.l = q.l := sorted_ext hp.sor hq.sor hl
  have e2 : p.s = q.s := by
    refine Sp.ext2 ?_ fun i => ?_
    · have := congrArg Sp.perm hc
      rwa [Pd.clean, Pd.clean, putL_perm, putL_perm] at this
    · by_cases h : ∃ y ∈ p.l, y.at_.toNat = i
      · obtain ⟨y, hy, rfl⟩ := h
        rw [(hp.fits y hy).brk, (hq.fits y ((hl y).1 hy)).brk]
      · have h1 : ∀ y ∈ p.l, y.at_.toNat ≠ i := fun y hy e => h ⟨y, hy, e⟩
        have := congrArg (fun s => s.byt[i]?) hc
        simp only [Pd.clean] at this
        rwa [putL_get_out _ _ _ _ h1, putL_get_out _ _ _ _ (fun y hy => h1 y ((hl y).2 hy))] at this
  obtain ⟨a, b⟩ := p
  obtain ⟨c, d⟩ := q
  simp only at e e2
  subst e e2
  rfl
end Go.Proofs.YtfiflailjbmlpaaGreatDoor
set_option maxRecDepth 100000
set_option linter.unusedVariables false
set_option linter.unusedSimpArgs false
namespace Go.Proofs.YtfiflailjbmlpaaGreatDoor
open Go.AM
abbrev Srt (l : List Pt) : Prop := l.Pairwise (fun x y => x.at_ < y.at_)
def lb (a : Int) : List Pt → Nat
  | [] => 0
  | y :: l => if y.at_ < a then lb a l + 1 else 0
theorem lb_le (a : Int) : ∀ l : List Pt, lb a l ≤ l.length
  | [] => Nat.le_refl _
  | y :: l => by have := lb_le a l; unfold lb; split <;> simp <;> omega
theorem lb_take (a : Int) : ∀ (l : List Pt), ∀ y ∈ l.take (lb a l), y.at_ < a
  | [], y, h => by simp at h
  | x :: l, y, h => by
    unfold lb at h
    split at h
    · rename_i hx
      rw [List.take_succ_cons] at h
      rcases List.mem_cons.1 h with rfl | h
      · exact hx
      · exact lb_take a l y h
    · simp at h
theorem lb_drop (a : Int) : ∀ (l : List Pt), Srt l → ∀ y ∈ l.drop (lb a l), a ≤ y.at_
  | [], _, y, h => by simp at h
  | x :: l, hs, y, h => by
    rw [Srt, List.pairwise_cons] at hs
    unfold lb at h
    split at h
    · rw [List.drop_succ_cons] at h
      exact lb_drop a l hs.2 y h
    · rw [List.drop_zero] at h
      rcases List.mem_cons.1 h with rfl | h
      · omega
      · have := hs.1 y h; omega
theorem lb_get {a : Int} : ∀ {l : List Pt}, Srt l → ∀ {y : Pt}, y ∈ l → y.at_ = a → l[lb a l]? = some y
  | [], _, y, h, _ => by cases h
  | x :: l, hs, y, h, e => by
    rw [Srt, List.pairwise_cons] at hs
    unfold lb
    rcases List.mem_cons.1 h with rfl | h
    · rw [if_neg (by omega)]
      rfl
    · have := hs.1 y h
      rw [if_pos (by omega)]
      exact lb_get hs.2 h e
def Pd.cur (p : Pd) (a : Int) : Option Pt := match p.l[lb a p.l]? with
  | some y => if y.at_ = a then some y else none
  | none => none
theorem Pd.cur_some {p : Pd} (hs : Srt p.l) {a : Int} {y : Pt} : p.cur a = some y ↔ y ∈ p.l ∧ y.at_ = a := by
  unfold Pd.cur
  constructor
  · intro h
    split at h
    · rename_i z hz
      split at h
      · rename_i e
        cases h
        exact ⟨List.mem_of_getElem? hz, e⟩
      · cases h
    · cases h
  · rintro ⟨h, e⟩
    rw [lb_get hs h e]
    simp [e]
theorem Pd.cur_at {p : Pd} {a : Int} {y : Pt} (h : p.cur a = some y) : p.l[lb a p.l]? = some y ∧ y.at_ = a := by
  unfold Pd.cur at h
  split at h
  · rename_i z hz
    split at h
    · rename_i e
      cases h
      exact ⟨hz, e⟩
    · cases h
  · cases h
theorem Pd.cur_none {p : Pd} (hs : Srt p.l) {a : Int} : p.cur a = none ↔ p.has a = false := by
  rw [Pd.has_false]
  constructor
  · intro h y hy e
    rw [(Pd.cur_some hs).2 ⟨hy, e⟩] at h
    cases h
  · intro h
    cases hc : p.cur a with
    | none => rfl
    | some y => exact absurd ((Pd.cur_some hs).1 hc).2 (h y ((Pd.cur_some hs).1 hc).1)
def b204 : Pt → UInt8 := fun _ => 204
theorem mk_eq {p : Pd} (h : p.ok) : p.s = putL b204 p.l p.clean := by
  refine Sp.ext2 (by rw [putL_perm, Pd.clean, putL_perm]) fun i => ?_
  by_cases hi : ∃ y ∈ p.l, y.at_.toNat = i
  · obtain ⟨y, hy, rfl⟩ := hi
    rw [(h.fits y hy).brk, putL_get_in _ _ _ _ h.sor (fun z hz => by rw [Pd.clean, putL_len]; exact h.bounds z hz) hy]
    rfl
  · have h1 : ∀ y ∈ p.l, y.at_.toNat ≠ i := fun y hy e => hi ⟨y, hy, e⟩
    rw [putL_get_out _ _ _ _ h1, Pd.clean, putL_get_out _ _ _ _ h1]
structure LOk (c : Sp) (l : List Pt) : Prop where
  len : l.length ≤ 64
  sor : Srt l
  fits : ∀ z ∈ l, 0 ≤ z.at_ ∧ z.at_ < c.byt.length ∧ 1 ≤ z.n ∧ z.n ≤ 1000 ∧ c.byt[z.at_.toNat]? = some z.old ∧ (stand c z.at_).e = 0
def mkP (c : Sp) (l : List Pt) : Pd := ⟨putL b204 l c, l⟩
theorem mk_clean {c : Sp} {l : List Pt} (h : LOk c l) : (mkP c l).clean = c := by
  have hb : ∀ y ∈ l, 0 ≤ y.at_ ∧ y.at_ < c.byt.length := fun y hy => ⟨(h.fits y hy).1, (h.fits y hy).2.1⟩
  refine Sp.ext2 (by rw [Pd.clean, putL_perm, mkP, putL_perm]) fun i => ?_
  rw [Pd.clean, mkP]
  by_cases hi : ∃ y ∈ l, y.at_.toNat = i
  · obtain ⟨y, hy, rfl⟩ := hi
    rw [putL_get_in _ _ _ _ h.sor (fun z hz => by rw [putL_len]; exact hb z hz) hy, (h.fits y hy).2.2.2.2.1]
  · have h1 : ∀ y ∈ l, y.at_.toNat ≠ i := fun y hy e => hi ⟨y, hy, e⟩
    rw [putL_get_out _ _ _ _ h1, putL_get_out _ _ _ _ h1]
theorem mk_ok {c : Sp} (hc : c.ok) {l : List Pt} (h : LOk c l) : (mkP c l).ok := by
  have hb : ∀ y ∈ l, 0 ≤ y.at_ ∧ y.at_ < c.byt.length := fun y hy => ⟨(h.fits y hy).1, (h.fits y hy).2.1⟩
  refine ⟨putL_ok _ _ hc, h.len, h.sor, fun y hy => ?_, fun y hy => ?_⟩
  · have hy2 : y ∈ l := hy
    obtain ⟨h1, h2, h3, h4, _⟩ := h.fits y hy2
    exact ⟨h1, by rw [mkP, putL_len]; exact h2, h3, h4, putL_get_in _ _ _ _ h.sor hb hy2⟩
  · rw [mk_clean h]
    exact (h.fits y hy).2.2.2.2.2
theorem Pd.ok.lok {p : Pd} (h : p.ok) : LOk p.clean p.l := ⟨h.len, h.sor, fun z hz => ⟨(h.bounds z hz).1, by rw [Pd.clean, putL_len]; exact (h.bounds z hz).2, (h.fits z hz).n1, (h.fits z hz).n2, h.cget hz, h.std z hz⟩⟩
end Go.Proofs.YtfiflailjbmlpaaGreatDoor
set_option maxRecDepth 100000
set_option linter.unusedVariables false
set_option linter.unusedSimpArgs false
namespace Go.Proofs.YtfiflailjbmlpaaGreatDoor
open Go.AM
theorem lb_split {a : Int} {l : List Pt} {y : Pt} (h : l[lb a l]? = some y) : l = l.take (lb a l) ++ y :: l.drop (lb a l + 1) := by
  have h1 := drop_at h
  rw [← h1, List.take_append_drop]
def insL (a : Int) (x : Pt) (l : List Pt) : List Pt := l.take (lb a l) ++ x :: l.drop (lb a l)
theorem ins_mem {a : Int} {x : Pt} {l : List Pt} {z : Pt} : z ∈ insL a x l ↔ z = x ∨ z ∈ l := by
  have : z ∈ l ↔ z ∈ l.take (lb a l) ∨ z ∈ l.drop (lb a l) := by rw [← List.mem_append, List.take_append_drop]
  rw [this, insL, List.mem_append, List.mem_cons]
  constructor
  · rintro (h | h | h)
    · exact .inr (.inl h)
    · exact .inl h
    · exact .inr (.inr h)
  · rintro (h | h | h)
    · exact .inr (.inl h)
    · exact .inl h
    · exact .inr (.inr h)
theorem ins_len (a : Int) (x : Pt) (l : List Pt) : (insL a x l).length = l.length + 1 := by
  have := lb_le a l
  simp [insL]
  omega
theorem ins_sor {a : Int} {x : Pt} {l : List Pt} (hs : Srt l) (hx : x.at_ = a) (hn : ∀ y ∈ l, y.at_ ≠ a) : Srt (insL a x l) := by
  have hs2 := hs
  rw [← List.take_append_drop (lb a l) l, Srt, List.pairwise_append] at hs2
  rw [insL, Srt, List.pairwise_append, List.pairwise_cons]
  refine ⟨hs2.1, ⟨fun y hy => ?_, hs2.2.1⟩, fun u hu v hv => ?_⟩
  · have h1 := lb_drop a l hs y hy
    have h2 := hn y (List.mem_of_mem_drop hy)
    omega
  · have h1 := lb_take a l u hu
    rcases List.mem_cons.1 hv with rfl | hv
    · omega
    · exact hs2.2.2 u hu v hv
theorem parts {a : Int} {l : List Pt} {y : Pt} (hs : Srt l) (h : l[lb a l]? = some y) (he : y.at_ = a) :
    Srt (l.take (lb a l)) ∧ Srt (l.drop (lb a l + 1)) ∧ (∀ u ∈ l.take (lb a l), u.at_ < a) ∧ (∀ v ∈ l.drop (lb a l + 1), a < v.at_) ∧
    (∀ z, z ∈ l ↔ z ∈ l.take (lb a l) ∨ z = y ∨ z ∈ l.drop (lb a l + 1)) ∧ l.length = (l.take (lb a l)).length + (l.drop (lb a l + 1)).length + 1 := by
  have h1 := lb_split h
  have hs2 := hs
  rw [h1, Srt, List.pairwise_append, List.pairwise_cons] at hs2
  refine ⟨hs2.1, hs2.2.1.2, lb_take a l, fun v hv => ?_, fun z => ?_, ?_⟩
  · rw [← he]; exact hs2.2.1.1 v hv
  · conv => lhs; rw [h1]
    rw [List.mem_append, List.mem_cons]
  · have h2 := (List.getElem?_eq_some_iff.1 h).1
    simp
    omega
theorem set_parts {a : Int} {l : List Pt} {y x : Pt} (h : l[lb a l]? = some y) : l.set (lb a l) x = l.take (lb a l) ++ x :: l.drop (lb a l + 1) :=
  List.set_eq_take_append_cons_drop.trans (if_pos (List.getElem?_eq_some_iff.1 h).1)
theorem set_sor {a : Int} {l : List Pt} {y x : Pt} (hs : Srt l) (h : l[lb a l]? = some y) (he : y.at_ = a) (hx : x.at_ = a) : Srt (l.set (lb a l) x) := by
  obtain ⟨p1, p2, p3, p4, p5, p6⟩ := parts hs h he
  rw [set_parts h, Srt, List.pairwise_append, List.pairwise_cons]
  refine ⟨p1, ⟨fun v hv => by rw [hx]; exact p4 v hv, p2⟩, fun u hu v hv => ?_⟩
  have := p3 u hu
  rcases List.mem_cons.1 hv with rfl | hv
  · omega
  · have := p4 v hv; omega
theorem set_mem {a : Int} {l : List Pt} {y x : Pt} (hs : Srt l) (h : l[lb a l]? = some y) (he : y.at_ = a) {z : Pt} : z ∈ l.set (lb a l) x ↔ z = x ∨ (z ∈ l ∧ z.at_ ≠ a) := by
  obtain ⟨p1, p2, p3, p4, p5, p6⟩ := parts hs h he
  rw [set_parts h, List.mem_append, List.mem_cons, p5 z]
  constructor
  · rintro (h1 | h1 | h1)
    · exact .inr ⟨.inl h1, by have := p3 z h1; omega⟩
    · exact .inl h1
    · exact .inr ⟨.inr (.inr h1), by have := p4 z h1; omega⟩
  · rintro (h1 | ⟨h1 | h1 | h1, h2⟩)
    · exact .inr (.inl h1)
    · exact .inl h1
    · subst h1; exact absurd he h2
    · exact .inr (.inr h1)
def p0 : Pd := ⟨⟨[], []⟩, []⟩
def Pd.inst (p : Pd) (a : Int) : Pd × Int := match p.cur a with
  | some y => if y.n = 1000 then (p0, 2) else (⟨p.s, p.l.set (lb a p.l) ⟨y.at_, y.old, y.n + 1⟩⟩, 0)
  | none => if (stand p.s a).e = 0 then (if p.l.length = 64 then (p0, 2) else (⟨p.s.put a.toNat 204, insL a ⟨a, (p.s.byt[a.toNat]?).getD 0, 1⟩ p.l⟩, 0)) else (p0, 71)
def Pd.rem (p : Pd) (a : Int) : Pd × Int := match p.cur a with
  | none => (p0, 3)
  | some y => if y.n = 1 then (⟨p.s.put a.toNat y.old, p.l.eraseIdx (lb a p.l)⟩, 0) else (⟨p.s, p.l.set (lb a p.l) ⟨y.at_, y.old, y.n - 1⟩⟩, 0)
structure Upd (p q : Pd) (a : Int) (z : Option Pt) : Prop where
  ok : q.ok
  cl : q.clean = p.clean
  cur : q.cur a = z
  oth : ∀ b, b ≠ a → q.cur b = p.cur b
theorem upd_mk {p q : Pd} {a : Int} {z : Option Pt} (h : p.ok) (hl : LOk p.clean q.l) (hs : q.s = putL b204 q.l p.clean) (hz : ∀ x, z = some x → x.at_ = a) (hm : ∀ x, x ∈ q.l ↔ z = some x ∨ (x ∈ p.l ∧ x.at_ ≠ a)) : Upd p q a z := by
  have e : q = mkP p.clean q.l := by
    obtain ⟨s, l⟩ := q
    simp only at hs
    rw [mkP, hs]
  have ok : q.ok := by rw [e]; exact mk_ok h.cok hl
  refine ⟨ok, by rw [e]; exact mk_clean hl, ?_, fun b hb => ?_⟩
  · cases z with
    | none =>
      rw [Pd.cur_none ok.sor, Pd.has_false]
      intro y hy e
      rcases (hm y).1 hy with h1 | h1
      · cases h1
      · exact h1.2 e
    | some x => exact (Pd.cur_some ok.sor).2 ⟨(hm x).2 (.inl rfl), hz x rfl⟩
  · cases hc : p.cur b with
    | none =>
      rw [Pd.cur_none ok.sor, Pd.has_false]
      intro y hy e
      rcases (hm y).1 hy with h1 | h1
      · exact hb (e.symm.trans (hz y h1))
      · exact Pd.has_false.1 ((Pd.cur_none h.sor).1 hc) y h1.1 e
    | some x =>
      obtain ⟨h1, h2⟩ := (Pd.cur_some h.sor).1 hc
      exact (Pd.cur_some ok.sor).2 ⟨(hm x).2 (.inr ⟨h1, by omega⟩), h2⟩
theorem lset {p : Pd} (h : p.ok) {a : Int} {y : Pt} (hy : p.cur a = some y) {n : Int} (h1 : 1 ≤ n) (h2 : n ≤ 1000) : Upd p ⟨p.s, p.l.set (lb a p.l) ⟨y.at_, y.old, n⟩⟩ a (some ⟨y.at_, y.old, n⟩) := by
  obtain ⟨hg, he⟩ := Pd.cur_at hy
  have hL := h.lok
  have hmy := List.mem_of_getElem? hg
  have hm := fun z => set_mem (x := ⟨y.at_, y.old, n⟩) (z := z) h.sor hg he
  refine upd_mk h ⟨by rw [List.length_set]; exact h.len, set_sor h.sor hg he he, fun z hz => ?_⟩ ?_ (fun x hx => by cases hx; exact he) (fun x => ?_)
  · rcases (hm z).1 hz with rfl | hz
    · obtain ⟨f1, f2, f3, f4, f5, f6⟩ := hL.fits y hmy
      exact ⟨f1, f2, h1, h2, f5, f6⟩
    · exact hL.fits z hz.1
  · simp only
    conv => lhs; rw [mk_eq h]
    refine Sp.ext2 (by rw [putL_perm, putL_perm]) fun i => ?_
    by_cases hi : ∃ u ∈ p.l, u.at_.toNat = i
    · obtain ⟨u, hu, rfl⟩ := hi
      rw [putL_get_in _ _ _ _ hL.sor (fun z hz => ⟨(hL.fits z hz).1, (hL.fits z hz).2.1⟩) hu]
      by_cases hua : u.at_ = a
      · have := putL_get_in b204 (p.l.set (lb a p.l) ⟨y.at_, y.old, n⟩) p.clean ⟨y.at_, y.old, n⟩ (set_sor h.sor hg he he) (fun z hz => by
          rcases (hm z).1 hz with rfl | hz
          · exact ⟨(hL.fits y hmy).1, (hL.fits y hmy).2.1⟩
          · exact ⟨(hL.fits z hz.1).1, (hL.fits z hz.1).2.1⟩) ((hm _).2 (.inl rfl))
        simp only at this
        rw [hua.trans he.symm, this]
        rfl
      · have := putL_get_in b204 (p.l.set (lb a p.l) ⟨y.at_, y.old, n⟩) p.clean u (set_sor h.sor hg he he) (fun z hz => by
          rcases (hm z).1 hz with rfl | hz
          · exact ⟨(hL.fits y hmy).1, (hL.fits y hmy).2.1⟩
          · exact ⟨(hL.fits z hz.1).1, (hL.fits z hz.1).2.1⟩) ((hm u).2 (.inr ⟨hu, hua⟩))
        rw [this]
    · have h1 : ∀ u ∈ p.l, u.at_.toNat ≠ i := fun u hu e => hi ⟨u, hu, e⟩
      rw [putL_get_out _ _ _ _ h1, putL_get_out _ _ _ _ (fun z hz => by
        rcases (hm z).1 hz with rfl | hz
        · exact h1 y hmy
        · exact h1 z hz.1)]
  · rw [hm x]
    constructor
    · rintro (rfl | h3)
      · exact .inl rfl
      · exact .inr h3
    · rintro (h3 | h3)
      · cases h3; exact .inl rfl
      · exact .inr h3
end Go.Proofs.YtfiflailjbmlpaaGreatDoor
set_option maxRecDepth 100000
set_option linter.unusedVariables false
set_option linter.unusedSimpArgs false
namespace Go.Proofs.YtfiflailjbmlpaaGreatDoor
open Go.AM
theorem putL_ext {c s : Sp} {l : List Pt} (hl : LOk c l) (hp : s.perm = c.perm) (hin : ∀ y ∈ l, s.byt[y.at_.toNat]? = some 204) (hout : ∀ i : Nat, (∀ y ∈ l, y.at_.toNat ≠ i) → s.byt[i]? = c.byt[i]?) : s = putL b204 l c := by
  refine Sp.ext2 (by rw [putL_perm]; exact hp) fun i => ?_
  by_cases hi : ∃ y ∈ l, y.at_.toNat = i
  · obtain ⟨y, hy, rfl⟩ := hi
    rw [hin y hy, putL_get_in _ _ _ _ hl.sor (fun z hz => ⟨(hl.fits z hz).1, (hl.fits z hz).2.1⟩) hy]
    rfl
  · have h1 : ∀ y ∈ l, y.at_.toNat ≠ i := fun y hy e => hi ⟨y, hy, e⟩
    rw [hout i h1, putL_get_out _ _ _ _ h1]
theorem Pd.ok.perm {p : Pd} (h : p.ok) : p.s.perm = p.clean.perm := by rw [Pd.clean, putL_perm]
theorem Pd.ok.out {p : Pd} (h : p.ok) {i : Nat} (hi : ∀ y ∈ p.l, y.at_.toNat ≠ i) : p.s.byt[i]? = p.clean.byt[i]? := by rw [Pd.clean, putL_get_out _ _ _ _ hi]
theorem lins {p : Pd} (h : p.ok) {a : Int} (ha : I64 a) (hc : p.cur a = none) (hst : (stand p.s a).e = 0) (hlen : p.l.length ≠ 64) :
    Upd p ⟨p.s.put a.toNat 204, insL a ⟨a, (p.s.byt[a.toNat]?).getD 0, 1⟩ p.l⟩ a (some ⟨a, (p.s.byt[a.toNat]?).getD 0, 1⟩) := by
  have hL := h.lok
  have hn := Pd.has_false.1 ((Pd.cur_none h.sor).1 hc)
  obtain ⟨q1, q2⟩ := h.standC ha ((Pd.cur_none h.sor).1 hc)
  obtain ⟨a0, a1, a2, d, t, _, hd⟩ := stand_at ha (by rw [hst]; decide)
  have hout : ∀ y ∈ p.l, y.at_.toNat ≠ a.toNat := fun y hy e => hn y hy (by have := (h.bounds y hy).1; omega)
  have hdc := (h.out hout).symm.trans hd
  have hcl : p.clean.byt.length = p.s.byt.length := by rw [Pd.clean, putL_len]
  rw [hd, Option.getD_some]
  have hlok : LOk p.clean (insL a ⟨a, d, 1⟩ p.l) := by
    refine ⟨by rw [ins_len]; have := h.len; omega, ins_sor h.sor rfl hn, fun z hz => ?_⟩
    rcases ins_mem.1 hz with rfl | hz
    · exact ⟨a0, by rw [hcl]; exact a1, Int.le_refl 1, (show (1 : Int) ≤ 1000 by decide), hdc, by rw [q1]; exact hst⟩
    · exact hL.fits z hz
  refine upd_mk h hlok (putL_ext hlok h.perm (fun y hy => ?_) (fun i hi => ?_)) (fun x hx => by cases hx; rfl) (fun x => ?_)
  · rcases ins_mem.1 hy with rfl | hy
    · simp only [Sp.put]
      exact List.getElem?_set_self (by omega)
    · simp only [Sp.put]
      rw [List.getElem?_set_ne (fun e => hout y hy e.symm)]
      exact (h.fits y hy).brk
  · have h1 := hi _ (ins_mem.2 (.inl rfl))
    simp only [Sp.put]
    rw [List.getElem?_set_ne h1]
    exact h.out fun y hy => hi y (ins_mem.2 (.inr hy))
  · rw [show x ∈ insL a ⟨a, d, 1⟩ p.l ↔ _ from ins_mem]
    constructor
    · rintro (rfl | h3)
      · exact .inl rfl
      · exact .inr ⟨h3, hn x h3⟩
    · rintro (h3 | h3)
      · cases h3; exact .inl rfl
      · exact .inr h3.1
theorem inst_some {p : Pd} (h : p.ok) {a : Int} {y : Pt} (hy : p.cur a = some y) (hn : y.n ≠ 1000) : (p.inst a).2 = 0 ∧ Upd p (p.inst a).1 a (some ⟨y.at_, y.old, y.n + 1⟩) ∧ (p.inst a).1.l.length = p.l.length := by
  have hf := h.fits y (List.mem_of_getElem? (Pd.cur_at hy).1)
  unfold Pd.inst
  rw [hy]
  simp only
  rw [if_neg hn]
  have := hf.n1
  have := hf.n2
  exact ⟨rfl, lset h hy (by omega) (by omega), List.length_set⟩
theorem inst_none {p : Pd} (h : p.ok) {a : Int} (ha : I64 a) (hc : p.cur a = none) (hst : (stand p.clean a).e = 0) (hlen : p.l.length ≠ 64) : (p.inst a).2 = 0 ∧ Upd p (p.inst a).1 a (some ⟨a, (p.clean.byt[a.toNat]?).getD 0, 1⟩) ∧ (p.inst a).1.l.length = p.l.length + 1 := by
  have hn := (Pd.cur_none h.sor).1 hc
  obtain ⟨q1, q2⟩ := h.standC ha hn
  rw [q1] at hst
  have hout : p.s.byt[a.toNat]? = p.clean.byt[a.toNat]? := h.out fun y hy e => Pd.has_false.1 hn y hy (by have := (h.bounds y hy).1; have := (stand_at ha (by rw [hst]; decide)).1; omega)
  have hI := lins h ha hc hst hlen
  unfold Pd.inst
  rw [hc]
  simp only
  rw [if_pos hst, if_neg hlen]
  rw [hout] at hI ⊢
  exact ⟨rfl, hI, ins_len ..⟩
theorem inst_inv {p : Pd} (h : p.ok) {a : Int} (ha : I64 a) (h0 : (p.inst a).2 = 0) : (∃ y, p.cur a = some y ∧ y.n ≠ 1000) ∨ (p.cur a = none ∧ (stand p.clean a).e = 0 ∧ p.l.length ≠ 64) := by
  unfold Pd.inst at h0
  cases hc : p.cur a with
  | some y =>
    rw [hc] at h0
    simp only at h0
    split at h0
    · exact absurd (show (2 : Int) = 0 from h0) (by decide)
    · rename_i hn; exact .inl ⟨y, rfl, hn⟩
  | none =>
    rw [hc] at h0
    simp only at h0
    split at h0
    · rename_i hst
      split at h0
      · exact absurd (show (2 : Int) = 0 from h0) (by decide)
      · rename_i hl
        exact .inr ⟨rfl, by rw [(h.standC ha ((Pd.cur_none h.sor).1 hc)).1]; exact hst, hl⟩
    · exact absurd (show (71 : Int) = 0 from h0) (by decide)
theorem Pd.ext3 {p q : Pd} (hp : p.ok) (hq : q.ok) (hc : p.clean = q.clean) (h : ∀ b, p.cur b = q.cur b) : p = q := by
  refine Pd.ext' hp hq hc fun y => ?_
  have h1 := Pd.cur_some hp.sor (a := y.at_) (y := y)
  have h2 := Pd.cur_some hq.sor (a := y.at_) (y := y)
  rw [h y.at_] at h1
  constructor
  · intro hy; exact (h2.1 (h1.2 ⟨hy, rfl⟩)).1
  · intro hy; exact (h1.1 (h2.2 ⟨hy, rfl⟩)).1
end Go.Proofs.YtfiflailjbmlpaaGreatDoor
set_option maxRecDepth 100000
set_option linter.unusedVariables false
set_option linter.unusedSimpArgs false
namespace Go.Proofs.YtfiflailjbmlpaaGreatDoor
open Go.AM
theorem inst_ok {p : Pd} (h : p.ok) {a : Int} (ha : I64 a) (h0 : (p.inst a).2 = 0) : ∃ z, Upd p (p.inst a).1 a (some z) ∧ z.at_ = a := by
  rcases inst_inv h ha h0 with ⟨y, hy, hn⟩ | ⟨hc, hst, hlen⟩
  · exact ⟨_, (inst_some h hy hn).2.1, (Pd.cur_at hy).2⟩
  · exact ⟨_, (inst_none h ha hc hst hlen).2.1, rfl⟩
end Go.Proofs.YtfiflailjbmlpaaGreatDoor
set_option maxRecDepth 100000
set_option linter.unusedVariables false
set_option linter.unusedSimpArgs false
namespace Go.Proofs.YtfiflailjbmlpaaGreatDoor
open Go.AM
noncomputable def Pd.app (p : Pd) (e : Eff) : Pd × Int := if (applyR p.s e).2 = 0 then (⟨(applyR p.s e).1, p.l⟩, 0) else (p0, (applyR p.s e).2)
end Go.Proofs.YtfiflailjbmlpaaGreatDoor
set_option maxRecDepth 100000
set_option linter.unusedVariables false
set_option linter.unusedSimpArgs false
namespace Go.Proofs.YtfiflailjbmlpaaGreatDoor
open Go.AM
theorem disp_ok {x : Ins} (hx : x.ok) (a b : Int) : (dispE x a b).1.ok := by
  rcases dispE_cases x a b with ⟨_, h⟩ | ⟨h, _⟩ | ⟨h, h2, _⟩
  · rw [h]; exact hx
  · rw [h]; exact hx
  · rw [h]; exact h2
end Go.Proofs.YtfiflailjbmlpaaGreatDoor
set_option maxRecDepth 100000
set_option linter.unusedVariables false
set_option linter.unusedSimpArgs false
namespace Go.Proofs.YtfiflailjbmlpaaGreatDoor
open Go.AM
theorem srt_adj : ∀ {l : List Pt}, (∀ (i : Nat) (x y : Pt), l[i]? = some x → l[i + 1]? = some y → x.at_ < y.at_) → Srt l
  | [], _ => List.Pairwise.nil
  | [x], _ => List.pairwise_singleton _ _
  | x :: y :: l, h => by
    have ih : Srt (y :: l) := srt_adj fun i u v hu hv => h (i + 1) u v (by simpa using hu) (by simpa using hv)
    have h0 := h 0 x y rfl rfl
    rw [Srt, List.pairwise_cons]
    refine ⟨fun z hz => ?_, ih⟩
    rcases List.mem_cons.1 hz with rfl | hz
    · exact h0
    · have := (List.pairwise_cons.1 ih).1 z hz
      omega
theorem srt_lt {l : List Pt} (hs : Srt l) {i j : Nat} {x y : Pt} (hij : i < j) (hx : l[i]? = some x) (hy : l[j]? = some y) : x.at_ < y.at_ := by
  obtain ⟨h1, rfl⟩ := List.getElem?_eq_some_iff.1 hx
  obtain ⟨h2, rfl⟩ := List.getElem?_eq_some_iff.1 hy
  exact List.pairwise_iff_getElem.1 hs i j h1 h2 hij
def okAt (s : Sp) (l : List Pt) (i : Nat) : Prop := ∀ x, l[i]? = some x → x.fits s ∧ ∀ y, 0 < i → l[i - 1]? = some y → y.at_ < x.at_
theorem okAt_all {s : Sp} {l : List Pt} : (∀ i, i < l.length → okAt s l i) ↔ Srt l ∧ ∀ x ∈ l, x.fits s := by
  constructor
  · intro h
    refine ⟨srt_adj fun i x y hx hy => ?_, fun x hx => ?_⟩
    · exact (h (i + 1) (List.getElem?_eq_some_iff.1 hy).1 y hy).2 x (by omega) hx
    · obtain ⟨i, hi⟩ := List.getElem?_of_mem hx
      exact (h i (List.getElem?_eq_some_iff.1 hi).1 x hi).1
  · rintro ⟨h1, h2⟩ i hi x hx
    exact ⟨h2 x (List.mem_of_getElem? hx), fun y h0 hy => srt_lt h1 (by omega) hy hx⟩
open Classical in
noncomputable def Pd.chk (p : Pd) : Int := if p.ok then 0 else 70
theorem Pd.chk_ok {p : Pd} (h : p.ok) : p.chk = 0 := if_pos h
theorem Pd.chk_no {p : Pd} (h : ¬ p.ok) : p.chk = 70 := if_neg h
theorem lb_eq {a : Int} {l : List Pt} (hs : Srt l) {i : Nat} (hi : i ≤ l.length) (h1 : ∀ (k : Nat) (x : Pt), k < i → l[k]? = some x → x.at_ < a) (h2 : ∀ x, l[i]? = some x → a ≤ x.at_) : lb a l = i := by
  have hle := lb_le a l
  rcases Nat.lt_trichotomy (lb a l) i with h | h | h
  · obtain ⟨x, hx⟩ := at_lt (l := l) (i := lb a l) (by omega)
    have := h1 _ x h hx
    have h3 := lb_drop a l hs x (by rw [drop_at hx]; exact List.mem_cons_self ..)
    omega
  · exact h
  · obtain ⟨x, hx⟩ := at_lt (l := l) (i := i) (by omega)
    have := h2 x hx
    have h3 := lb_take a l x (List.mem_of_getElem? (i := i) (by rw [List.getElem?_take, if_pos h]; exact hx))
    omega
def idx (a : Int) (l : List Pt) : Int := match l[lb a l]? with
  | some y => if y.at_ = a then (lb a l : Int) else -1
  | none => -1
theorem cur_idx {p : Pd} {a : Int} : (p.cur a = none ↔ idx a p.l < 0) ∧ (∀ y, p.cur a = some y → idx a p.l = lb a p.l) := by
  unfold Pd.cur idx
  cases p.l[lb a p.l]? with
  | none => exact ⟨⟨fun _ => show (-1 : Int) < 0 by decide, fun _ => rfl⟩, fun y h => by cases h⟩
  | some y =>
    simp only
    split
    · refine ⟨⟨fun h => (by cases h), fun h => ?_⟩, fun _ _ => rfl⟩
      omega
    · exact ⟨⟨fun _ => show (-1 : Int) < 0 by decide, fun _ => rfl⟩, fun y h => by cases h⟩
end Go.Proofs.YtfiflailjbmlpaaGreatDoor
set_option maxRecDepth 100000
set_option linter.unusedVariables false
set_option linter.unusedSimpArgs false
namespace Go.Proofs.YtfiflailjbmlpaaGreatDoor
open Go.AM
abbrev rp (x : Pt) : List AV := [iv x.at_, bv x.old, iv x.n]
theorem rp_lt0 (l : List Pt) : ∀ row ∈ l.map rp, ltL 0 row = true := rows_lt (fun _ => rfl) l
theorem rp_pure (l : List Pt) : ∀ row ∈ l.map rp, ∀ x ∈ row, x.pure = true := rows_pure (fun _ => rfl) l
def Pd.av (p : Pd) : AV := .agg [.view false 1 (p.s.perm.map r1), .view false 1 (p.s.byt.map rb), .view false 3 (p.l.map rp)]
theorem Pd.av_lt (p : Pd) (m : Nat) : p.av.lt m = true := rfl
theorem cloneB_f (xs : List UInt8) (full : Bool) (hl : xs.length ≤ 1000000) : ACalls Tryz.prog 106 [.view full 1 (xs.map rb)] [] (fun o H => o = .ret (.sl 0 0 xs.length none) ∧ H = [.rows 1 (xs.map rb)]) := by
  refine ACalls.up ?_
  refine ACalls.intro (cs := []) (n := 8) Tryz.func106 rfl rfl rfl (by kernel_rfl) rfl ?_
  generalize hpost : (fun (o : Out) (H : Heap) => o = Out.ret (.sl 0 0 xs.length none) ∧ H = [.rows 1 (xs.map rb)]) = post
  simp only [go_sem,rK_ndb]
  intro b hb
  refine condD_split (fun e => ?_) (fun e => ?_)
  · have hl0 : xs = [] := by
      rw [List.length_map] at hb
      rcases xs with _ | ⟨x, l⟩
      · rfl
      · have := hb (by simp); rw [e] at this; cases this
    subst hl0
    simp only [go_sem]
    refine .nils 0 1 (.done ?_)
    rw [← hpost]
    exact ⟨rfl, rfl⟩
  · have e5 : xs.length ≤ 68719476736 := by omega
    simp only [go_sem,List.length_map,e5]
    refine .pick (o' := .ret (.sl 0 0 xs.length none)) (H' := [.rows 1 (xs.map rb)]) [1] (by simp) rfl ?_ rfl (.done (by rw [← hpost]; exact ⟨rfl, rfl⟩))
    simp [Blk.ren, Function.comp, AV.ren]
theorem cloneP_f (xs : List Pt) (full : Bool) (hl : xs.length ≤ 1000000) : ACalls Tryz.prog 70 [.view full 3 (xs.map rp)] [] (fun o H => o = .ret (.sl 0 0 xs.length none) ∧ H = [.rows 3 (xs.map rp)]) := by
  refine ACalls.up ?_
  refine ACalls.intro (cs := []) (n := 8) Tryz.func70 rfl rfl rfl (by kernel_rfl) rfl ?_
  generalize hpost : (fun (o : Out) (H : Heap) => o = Out.ret (.sl 0 0 xs.length none) ∧ H = [.rows 3 (xs.map rp)]) = post
  simp only [go_sem,rK_ndb]
  intro b hb
  refine condD_split (fun e => ?_) (fun e => ?_)
  · have hl0 : xs = [] := by
      rw [List.length_map] at hb
      rcases xs with _ | ⟨x, l⟩
      · rfl
      · have := hb (by simp); rw [e] at this; cases this
    subst hl0
    simp only [go_sem]
    refine .nils 0 3 (.done ?_)
    rw [← hpost]
    exact ⟨rfl, rfl⟩
  · have e5 : xs.length ≤ 68719476736 := by omega
    simp only [go_sem,List.length_map,e5]
    refine .pick (o' := .ret (.sl 0 0 xs.length none)) (H' := [.rows 3 (xs.map rp)]) [1] (by simp) rfl ?_ rfl (.done (by rw [← hpost]; exact ⟨rfl, rfl⟩))
    simp [Blk.ren, Function.comp, AV.ren]
theorem pcopied_c (p : Pd) (h1 : p.s.perm.length ≤ 1000) (h2 : p.s.byt.length ≤ 1000000) (h3 : p.l.length ≤ 1000000) :
    ACalls Tryz.prog 58 [p.av] [] (fun o H => o = .ret (.agg [.view false 1 (p.s.perm.map r1), .sl 0 0 p.s.byt.length none, .sl 1 0 p.l.length none]) ∧ H = [.rows 1 (p.s.byt.map rb), .rows 3 (p.l.map rp)]) := by
  refine ACalls.up ?_
  refine ACalls.intro (cs := []) (n := 16) Tryz.func58 rfl rfl rfl (by kernel_rfl) rfl ?_
  generalize hpost : (fun (o : Out) (H : Heap) => o = Out.ret (.agg [.view false 1 (p.s.perm.map r1), .sl 0 0 p.s.byt.length none, .sl 1 0 p.l.length none]) ∧ H = [.rows 1 (p.s.byt.map rb), .rows 3 (p.l.map rp)]) = post
  simp only [go_sem,Pd.av]
  refine draw [.qu 0 0, .qu 0 0, .qu 0 0, .mn 0, .qu 0 1, .qu 0 1, .rd 0 1, .mn 1, .qu 2 3, .qu 0 2, .rd 0 2, .mn 2, .qu 3 3, .mn 3] (by kernel_rfl) (by kernel_rfl) ?_
  simp only [go_sem]
  refine dM_call (enters_of Tryz.func105 rfl (by decide)) (ACalls.pure_use (clone_int_c p.s.perm false h1) rfl rfl) ?_
  simp only [go_sem]
  refine dM_call (enters_of Tryz.func106 rfl (by decide)) (ACalls.fresh (v' := .sl 2 0 p.s.byt.length none) (cloneB_f p.s.byt false h2) rfl (blt0 (rb_lt0 _)) rfl) ?_
  simp only [go_sem]
  refine dM_call (enters_of Tryz.func70 rfl (by decide)) (ACalls.fresh (v' := .sl 3 0 p.l.length none) (cloneP_f p.l false h3) rfl (blt0 (rp_lt0 _)) rfl) ?_
  simp only [go_sem]
  refine .pick (o' := .ret (.agg [.view false 1 (p.s.perm.map r1), .sl 0 0 p.s.byt.length none, .sl 1 0 p.l.length none])) (H' := [.rows 1 (p.s.byt.map rb), .rows 3 (p.l.map rp)]) [2, 3] (by simp) rfl ?_ rfl (.done (by rw [← hpost]; exact ⟨rfl, rfl⟩))
  simp [Blk.ren, Function.comp, AV.ren]
end Go.Proofs.YtfiflailjbmlpaaGreatDoor
set_option maxRecDepth 100000
set_option linter.unusedVariables false
set_option linter.unusedSimpArgs false
namespace Go.Proofs.YtfiflailjbmlpaaGreatDoor
open Go.AM
theorem putL_app (f : Pt → UInt8) : ∀ (a b : List Pt) (s : Sp), putL f (a ++ b) s = putL f b (putL f a s)
  | [], _, _ => rfl
  | x :: a, b, s => putL_app f a b _
theorem putL_succ {f : Pt → UInt8} {l : List Pt} {i : Nat} {x : Pt} (hx : l[i]? = some x) (s : Sp) : putL f (l.take (i + 1)) s = (putL f (l.take i) s).put x.at_.toNat (f x) := by
  rw [List.take_add_one, hx, Option.toList_some, putL_app]
  rfl
theorem ACalls.fresh2 {P : Program} {f : FuncId} {args : List AV} {v v' : AV} {b c : Blk} {H : Heap} (hc : ACalls P f args [] (fun o H => o = .ret v ∧ H = [b, c])) (ha : ltL 0 args = true) (hb : b.lt 0) (hb2 : c.lt 0) (hv : v.ren (pi [] H.length) = v') : ACalls P f args H (fun o H2 => o = .ret v' ∧ H2 = H ++ [b, c]) := by
  refine hc.useE [] v' (H ++ [b, c]) List.nodup_nil rfl (by simp) rfl (renL_pure' ha).symm hv ?_
  simp [patch, setMany, bren_lt (m := 0) (fun k hk => absurd hk (Nat.not_lt_zero k)) hb, bren_lt (m := 0) (fun k hk => absurd hk (Nat.not_lt_zero k)) hb2]
structure Pd.fit (p : Pd) : Prop where
  h1 : p.s.perm.length ≤ 1000
  h2 : p.s.byt.length ≤ 1000000
  h3 : p.l.length ≤ 1000000
theorem Pd.ok.fit {p : Pd} (h : p.ok) : p.fit := ⟨by have := h.sok.p32; omega, by have := byt_len h.sok; omega, by have := h.len; omega⟩
theorem pcopied_u (p : Pd) (h : p.fit) (H : Heap) : ACalls Tryz.prog 58 [p.av] H (fun o H2 => o = .ret (.agg [.view false 1 (p.s.perm.map r1), .sl H.length 0 p.s.byt.length none, .sl (H.length + 1) 0 p.l.length none]) ∧ H2 = H ++ [.rows 1 (p.s.byt.map rb), .rows 3 (p.l.map rp)]) :=
  ACalls.fresh2 (pcopied_c p h.h1 h.h2 h.h3) rfl (blt0 (rb_lt0 _)) (blt0 (rp_lt0 _)) (by simp [AV.ren, renL, pi])
theorem clean_c (p : Pd) (h : p.fit) (hb : ∀ y ∈ p.l, 0 ≤ y.at_ ∧ y.at_ < p.s.byt.length) : ACalls Tryz.prog 50 [p.av] [] (fun o H => o = .ret p.clean.av ∧ H = []) := by
  refine ACalls.up ?_
  refine ACalls.intro (cs := []) (n := 25) Tryz.func50 rfl rfl rfl (by kernel_rfl) rfl ?_
  generalize hpost : (fun (o : Out) (H : Heap) => o = Out.ret p.clean.av ∧ H = []) = post
  simp only [go_sem,Pd.av]
  refine rK_use (enters_of Tryz.func58 rfl (by decide)) (pcopied_u p h _) ?_
  simp only [go_sem,List.length_map]
  have hl3 := h.h3
  refine loop_fam (fun i : Nat => (((((Ch.nil.put 2 (.ptr 1 0 0)).put 3 (.ptr 4 0 0)).put 10 (.view false 3 (p.l.map rp))).put 11 (iv p.l.length)).put 12 (iv i)))
    (fun i => [.rows 3 [[.view false 1 (p.s.perm.map r1), .view false 1 (p.s.byt.map rb), .view false 3 (p.l.map rp)]], .rows 2 [[.view true 0 [], .view true 0 []]], .rows 1 ((putL Pt.old (p.l.take i) p.s).byt.map rb), .rows 3 (p.l.map rp), .rows 2 [[.view false 1 (p.s.perm.map r1), .sl 2 0 p.s.byt.length none]]])
    (fun i => p.l.length - i) (fun i => i ≤ p.l.length) 0 (by kernel_rfl) (Nat.zero_le _) (Wk.slots' rfl (by simp [wkS, Ch.get])) ?_
  rintro i hi K hK
  simp only [go_sem]
  refine condD_dec (fun hc => ?_) (fun hc => ?_)
  · obtain ⟨x, hx⟩ := at_lt (l := p.l) (i := i) (by omega)
    obtain ⟨b0, b1⟩ := hb x (List.mem_of_getElem? hx)
    have e1 : iw .i64 ((i : Int) + 1) = ((i + 1 : Nat) : Int) := by rw [iw64] <;> omega
    have g1 : (0 : Int) ≤ i ∧ (i : Int) < p.l.length := ⟨by omega, by omega⟩
    have hl : (putL Pt.old (p.l.take i) p.s).byt.length = p.s.byt.length := putL_len ..
    have g3 : x.at_.toNat < p.s.byt.length := by omega
    obtain ⟨z, hz⟩ := at_lt (l := (putL Pt.old (p.l.take i) p.s).byt) (i := x.at_.toNat) (by omega)
    have hset : ((putL Pt.old (p.l.take i) p.s).byt.map rb).set x.at_.toNat [bv x.old] = (putL Pt.old (p.l.take (i + 1)) p.s).byt.map rb := by
      rw [putL_succ hx, Sp.put, List.map_set]
    simp only [go_sem,hx,List.getElem?_map,List.length_map,g1,b0,b1,hl,g3,hz,hset,e1]
    exact hK (i + 1) _ _ (by omega) (by omega) (Wk.drop (m := 5) (by simp [wkS, Ch.get]) (Nat.zero_le _) (by simp) (by simp [chLt, AV.lt]) rfl (by simp only [List.forall_mem_cons]; exact ⟨by simp [Blk.lt, ltL, AV.lt], by simp [Blk.lt, ltL, AV.lt], blt0 (rb_lt0 _), blt0 (rp_lt0 _), by simp [Blk.lt, ltL, AV.lt], by simp⟩))
  · simp only [go_sem]
    have : i = p.l.length := by omega
    subst this
    rw [List.take_length]
    refine up_one 2 1 (p.clean.byt.map rb) rfl (rb_lt0 _) ?_ ?_ ?_
    · simp [Out.fzOk, AV.fzOk, fzOkL, Pd.clean, putL_len]
    · simp [Out.fz, AV.fz, fzL, Out.lt, AV.lt, ltL]
    · rw [← hpost]
      have hl : p.clean.byt.length = p.s.byt.length := putL_len ..
      have e4 : (p.clean.byt.map rb).take p.s.byt.length = p.clean.byt.map rb := List.take_of_length_le (by simp [hl])
      simp [Out.fz, AV.fz, fzL, Sp.av, Pd.clean, putL_perm]
      exact e4
def sitC (s : Sp) (a : Int) : List AV := (stand s a).x.cells ++ [iv (stand s a).n]
theorem standing_c (s : Sp) (hs : s.ok) (a : Int) : ACalls Tryz.prog 49 [s.av, iv a] [] (fun o H => o = .ret (.tuple [.agg (sitC s a), .bool (decide ((stand s a).e = 0))]) ∧ H = []) := by
  refine ACalls.up ?_
  refine ACalls.intro (cs := []) (n := 30) Tryz.func49 rfl rfl rfl (by kernel_rfl) rfl ?_
  generalize hpost : (fun (o : Out) (H : Heap) => o = Out.ret (.tuple [.agg (sitC s a), .bool (decide ((stand s a).e = 0))]) ∧ H = []) = post
  simp only [go_sem,Sp.av]
  refine rK_use (enters_of Tryz.func95 rfl (by decide)) (ACalls.pure_use (fetch_c s hs a 12 (by decide)) rfl (by simp [AV.lt, ltL])) ?_
  have hbl := s.fet_len a 12 0
  have hst : stand s a = dec (s.fet a 12 0) := rfl
  generalize hb : s.fet a 12 0 = b at *
  simp only [go_sem]
  refine rK_use (enters_of Tryz.func96 rfl (by decide)) (ACalls.pure_use (decode_c b (by omega)) rfl (by simp [Dec.av, AV.lt, ltL, Ins.av, Ins.cells])) ?_
  simp only [go_sem,Dec.av,Ins.av,Ins.cells]
  refine finv (by simp [AV.lt, ltL]) ?_ _
  rw [← hpost, sitC, hst]
  exact ⟨rfl, rfl⟩
end Go.Proofs.YtfiflailjbmlpaaGreatDoor
set_option maxRecDepth 100000
set_option linter.unusedVariables false
set_option linter.unusedSimpArgs false
namespace Go.Proofs.YtfiflailjbmlpaaGreatDoor
open Go.AM
def cmpI (a b : Int) : Int := if a < b then -1 else if b < a then 1 else 0
theorem isnan_c (a : Int) : ACalls Tryz.prog 133 [iv a] [] (fun o H => o = .ret (.bool false) ∧ H = []) := by
  refine ACalls.up ?_
  refine ACalls.intro (cs := []) (n := 6) Tryz.func133 rfl rfl rfl (by kernel_rfl) rfl ?_
  simp only [go_sem]
  exact .done ⟨rfl, rfl⟩
theorem compare_c (a b : Int) : ACalls Tryz.prog 119 [iv a, iv b] [] (fun o H => o = .ret (iv (cmpI a b)) ∧ H = []) := by
  refine ACalls.up ?_
  refine ACalls.intro (cs := []) (n := 20) Tryz.func119 rfl rfl rfl (by kernel_rfl) rfl ?_
  generalize hpost : (fun (o : Out) (H : Heap) => o = Out.ret (iv (cmpI a b)) ∧ H = []) = post
  have fin : ∀ n H, n = cmpI a b → Up 0 post (.ret (iv n)) H := fun n H h => finv rfl (by rw [← hpost, ← h]; exact ⟨rfl, rfl⟩) H
  simp only [go_sem]
  refine rK_use (enters_of Tryz.func133 rfl (by decide)) (ACalls.pure_use (isnan_c a) rfl rfl) ?_
  simp only [go_sem]
  refine rK_use (enters_of Tryz.func133 rfl (by decide)) (ACalls.pure_use (isnan_c b) rfl rfl) ?_
  simp only [go_sem]
  refine condD_dec (fun h1 => ?_) (fun h1 => ?_)
  · simp only [go_sem]
    exact fin _ _ (by rw [cmpI, if_pos h1])
  · simp only [go_sem]
    refine condD_dec (fun h2 => ?_) (fun h2 => ?_)
    · simp only [go_sem]
      exact fin _ _ (by rw [cmpI, if_neg h1, if_pos h2])
    · simp only [go_sem]
      exact fin _ _ (by rw [cmpI, if_neg h1, if_neg h2])
theorem findkey_c (x : Pt) : ACalls Tryz.prog 94 [.agg (rp x)] [] (fun o H => o = .ret (iv x.at_) ∧ H = []) := by
  refine ACalls.up ?_
  refine ACalls.intro (cs := []) (n := 5) Tryz.func94 rfl rfl rfl (by kernel_rfl) rfl ?_
  simp only [go_sem]
  exact finv rfl ⟨rfl, rfl⟩ _
def keyB : Blk := .rows 1 [[.func (.func 94) [] []]]
theorem searchcmp_c (x : Pt) (a : Int) : ACalls Tryz.prog 118 [.agg (rp x), iv a, .ptr 0 0 0] [keyB] (fun o H => o = .ret (iv (cmpI x.at_ a)) ∧ H = [keyB]) := by
  refine ACalls.up ?_
  refine ACalls.intro (cs := []) (n := 11) Tryz.func118 rfl rfl rfl (by kernel_rfl) rfl ?_
  simp only [go_sem,keyB]
  refine rK_use (enters_of Tryz.func94 rfl (by decide)) (ACalls.pure_use (findkey_c x) rfl rfl) ?_
  simp only [go_sem]
  refine rK_use (enters_of Tryz.func119 rfl (by decide)) (ACalls.pure_use (compare_c x.at_ a) rfl rfl) ?_
  simp only [go_sem]
  exact .gc 1 (Nat.le_refl _) (by simp) rfl (by simp [Blk.lt, ltL, AV.lt]) (.done ⟨rfl, rfl⟩)
theorem cmpI_lt (a b : Int) : cmpI a b < 0 ↔ a < b := by
  unfold cmpI
  repeat' split
  all_goals omega
theorem cmpI_eq (a b : Int) : cmpI a b = 0 ↔ a = b := by
  unfold cmpI
  repeat' split
  all_goals omega
def fnd (a : Int) (l : List Pt) : Bool := match l[lb a l]? with
  | some y => decide (y.at_ = a)
  | none => false
theorem bsearch_c (l : List Pt) (hs : Srt l) (hl : l.length ≤ 1000000) (a : Int) : ACalls Tryz.prog 117 [.view false 3 (l.map rp), iv a, .func (.func 118) [] [.ptr 0 0 0]] [keyB]
    (fun o H => o = .ret (.tuple [iv (lb a l), .bool (fnd a l)]) ∧ H = [keyB]) := by
  refine ACalls.up ?_
  refine ACalls.intro (cs := []) (n := 49) Tryz.func117 rfl rfl rfl (by kernel_rfl) rfl ?_
  generalize hpost : (fun (o : Out) (H : Heap) => o = Out.ret (.tuple [iv (lb a l), .bool (fnd a l)]) ∧ H = [keyB]) = post
  simp only [go_sem,List.length_map]
  refine loop_fam (fun q : Nat × Nat => ((((((Ch.nil.put 0 (.view false 3 (l.map rp))).put 1 (iv a)).put 2 (.func (.func 118) [] [.ptr 0 0 0])).put 8 (iv l.length)).put 9 (iv q.1)).put 10 (iv q.2)))
    (fun _ => [keyB]) (fun q => q.2 - q.1) (fun q => q.1 ≤ q.2 ∧ q.2 ≤ l.length ∧ (∀ (k : Nat) (x : Pt), k < q.1 → l[k]? = some x → x.at_ < a) ∧ (∀ (k : Nat) (x : Pt), q.2 ≤ k → l[k]? = some x → a ≤ x.at_)) (0, l.length) (by kernel_rfl)
    ⟨Nat.zero_le _, Nat.le_refl _, fun k x hk => absurd hk (Nat.not_lt_zero _), fun k x hk hx => absurd (List.getElem?_eq_some_iff.1 hx).1 (by simp at hk; omega)⟩ (Wk.slots' rfl (by simp [wkS, Ch.get])) ?_
  rintro ⟨i, j⟩ ⟨hij, hj, h1, h2⟩ K hK
  simp only at hij hj h1 h2
  simp only [go_sem]
  refine condD_dec (fun hc => ?_) (fun hc => ?_)
  · have e1 : iw .i64 ((i : Int) + j) = ((i + j : Nat) : Int) := by rw [iw64] <;> omega
    have e2 : iw .u64 ((i + j : Nat) : Int) = ((i + j : Nat) : Int) := by rw [iwu64]; omega
    have e3 : ((i + j : Nat) : Int).fdiv (2 ^ min 1 64) = (((i + j) / 2 : Nat) : Int) := by
      rw [show min 1 64 = 1 from rfl, Int.pow_one, Int.fdiv_eq_ediv_of_nonneg _ (by decide)]; omega
    have e4 : iw .i64 (((i + j) / 2 : Nat) : Int) = (((i + j) / 2 : Nat) : Int) := by rw [iw64] <;> omega
    obtain ⟨h, hh⟩ : ∃ h, h = (i + j) / 2 := ⟨_, rfl⟩
    rw [← hh] at e3 e4
    have e5 : iw .i64 ((h : Int) + 1) = ((h + 1 : Nat) : Int) := by rw [iw64] <;> omega
    obtain ⟨x, hx⟩ := at_lt (l := l) (i := h) (by omega)
    have g1 : (0 : Int) ≤ h ∧ (h : Int) < l.length := ⟨by omega, by omega⟩
    simp only [go_sem,e1,e2,e3,e4,g1,List.length_map,List.getElem?_map,hx]
    refine rK_use (enters_of Tryz.func118 rfl (by decide)) (searchcmp_c x a) ?_
    simp only [go_sem]
    refine condD_dec (fun hd => ?_) (fun hd => ?_)
    · rw [cmpI_lt] at hd
      simp only [go_sem,e5]
      refine hK (h + 1, j) _ _ ⟨by simp; omega, hj, fun k y hk hy => ?_, h2⟩ (by simp; omega) (Wk.slots' rfl (by simp [wkS, Ch.get]))
      rcases Nat.lt_or_eq_of_le (Nat.le_of_lt_succ hk) with hk | rfl
      · have := srt_lt hs hk hy hx; omega
      · rw [hx] at hy; cases hy; exact hd
    · rw [cmpI_lt] at hd
      simp only [go_sem]
      refine hK (i, h) _ _ ⟨by simp; omega, by simp; omega, h1, fun k y hk hy => ?_⟩ (by simp; omega) (Wk.slots' rfl (by simp [wkS, Ch.get]))
      rcases Nat.lt_or_eq_of_le hk with hk | rfl
      · have := srt_lt hs hk hx hy; omega
      · rw [hx] at hy; cases hy; omega
  · simp only [go_sem]
    have hji : j = i := by omega
    subst hji
    have hlb : lb a l = j := lb_eq hs hj h1 (fun x hx => h2 j x (Nat.le_refl _) hx)
    refine gD_dec (fun hd => ?_) (fun hd => ?_)
    · obtain ⟨x, hx⟩ := at_lt (l := l) (i := j) (by omega)
      have g1 : (0 : Int) ≤ j ∧ (j : Int) < l.length := ⟨by omega, by omega⟩
      simp only [go_sem,hd,g1,List.length_map,List.getElem?_map,hx]
      refine rK_use (enters_of Tryz.func118 rfl (by decide)) (searchcmp_c x a) ?_
      simp only [go_sem,hd]
      refine .done ?_
      rw [← hpost]
      refine ⟨?_, rfl⟩
      rw [fnd, hlb, hx]
      simp only [cmpI_eq]
    · simp only [go_sem,hd]
      refine .done ?_
      rw [← hpost]
      refine ⟨?_, rfl⟩
      rw [fnd, hlb, List.getElem?_eq_none (by omega)]
theorem search_c (l : List Pt) (hs : Srt l) (hl : l.length ≤ 1000000) (a : Int) : ACalls Tryz.prog 93 [.view false 3 (l.map rp), iv a, .func (.func 94) [] []] [] (fun o H => o = .ret (.tuple [iv (lb a l), .bool (fnd a l)]) ∧ H = []) := by
  refine ACalls.up ?_
  refine ACalls.intro (cs := []) (n := 14) Tryz.func93 rfl rfl rfl (by kernel_rfl) rfl ?_
  simp only [go_sem]
  refine rK_use (enters_of Tryz.func117 rfl (by decide)) (bsearch_c l hs hl a) ?_
  simp only [go_sem]
  exact finv rfl ⟨rfl, rfl⟩ _
theorem find_c (l : List Pt) (hs : Srt l) (hl : l.length ≤ 1000000) (a : Int) : ACalls Tryz.prog 48 [.view false 3 (l.map rp), iv a] [] (fun o H => o = .ret (.tuple [iv (lb a l), .bool (fnd a l)]) ∧ H = []) := by
  refine ACalls.up ?_
  refine ACalls.intro (cs := []) (n := 11) Tryz.func48 rfl rfl rfl (by kernel_rfl) rfl ?_
  simp only [go_sem]
  refine rK_use (enters_of Tryz.func93 rfl (by decide)) (ACalls.pure_use (search_c l hs hl a) rfl rfl) ?_
  simp only [go_sem]
  exact finv rfl ⟨rfl, rfl⟩ _
end Go.Proofs.YtfiflailjbmlpaaGreatDoor
set_option maxRecDepth 100000
set_option linter.unusedVariables false
set_option linter.unusedSimpArgs false
namespace Go.Proofs.YtfiflailjbmlpaaGreatDoor
open Go.AM
theorem check1_c (s : Sp) (hs : s.ok) (x : Pt) : ACalls Tryz.prog 63 [.agg (rp x), .ptr 0 0 0] [spB (.view false 1 (s.perm.map r1)) (.view false 1 (s.byt.map rb))]
    (fun o H => o = .ret (.bool (!decide ((stand s x.at_).e = 0))) ∧ H = [spB (.view false 1 (s.perm.map r1)) (.view false 1 (s.byt.map rb))]) := by
  refine ACalls.up ?_
  refine ACalls.intro (cs := []) (n := 15) Tryz.func63 rfl rfl rfl (by kernel_rfl) rfl ?_
  simp only [go_sem,spB]
  refine rK_use (enters_of Tryz.func49 rfl (by decide)) (ACalls.pure_use (standing_c s hs x.at_) rfl (by simp [sitC, Ins.cells, AV.lt, ltL])) ?_
  simp only [go_sem,sitC,Ins.cells]
  exact .gc 1 (Nat.le_refl _) (by simp) rfl (by simp [Blk.lt, ltL, AV.lt]) (.done ⟨rfl, rfl⟩)
def bad0 (s : Sp) : List Pt → Nat → Int
  | [], _ => -1
  | x :: l, i => if (stand s x.at_).e = 0 then bad0 s l (i + 1) else i
theorem bad0_lt (s : Sp) : ∀ (l : List Pt) (i : Nat), bad0 s l i < 0 ↔ ∀ x ∈ l, (stand s x.at_).e = 0
  | [], i => by simp [bad0]
  | x :: l, i => by
    have := bad0_lt s l (i + 1)
    rw [bad0, List.forall_mem_cons]
    split
    · rename_i h; rw [this]; exact ⟨fun k => ⟨h, k⟩, fun k => k.2⟩
    · rename_i h; exact ⟨fun k => by omega, fun k => absurd k.1 h⟩
theorem index_c (s : Sp) (hs : s.ok) (l : List Pt) (hl : l.length ≤ 1000000) : ACalls Tryz.prog 107 [.view false 3 (l.map rp), .func (.func 63) [] [.ptr 0 0 0]] [spB (.view false 1 (s.perm.map r1)) (.view false 1 (s.byt.map rb))]
    (fun o H => o = .ret (iv (bad0 s l 0)) ∧ H = [spB (.view false 1 (s.perm.map r1)) (.view false 1 (s.byt.map rb))]) := by
  refine ACalls.up ?_
  refine ACalls.intro (cs := []) (n := 19) Tryz.func107 rfl rfl rfl (by kernel_rfl) rfl ?_
  generalize hpost : (fun (o : Out) (H : Heap) => o = Out.ret (iv (bad0 s l 0)) ∧ H = [spB (.view false 1 (s.perm.map r1)) (.view false 1 (s.byt.map rb))]) = post
  simp only [go_sem,List.length_map]
  refine loop_fam (fun i : Nat => ((((Ch.nil.put 0 (.view false 3 (l.map rp))).put 1 (.func (.func 63) [] [.ptr 0 0 0])).put 7 (iv l.length)).put 8 (iv i)))
    (fun _ => [spB (.view false 1 (s.perm.map r1)) (.view false 1 (s.byt.map rb))]) (fun i => l.length - i) (fun i => i ≤ l.length ∧ bad0 s l 0 = bad0 s (l.drop i) i) 0 (by kernel_rfl) ⟨Nat.zero_le _, rfl⟩ (Wk.slots' rfl (by simp [wkS, Ch.get])) ?_
  rintro i ⟨hi, hb⟩ K hK
  simp only [go_sem]
  refine condD_dec (fun hc => ?_) (fun hc => ?_)
  · obtain ⟨x, hx⟩ := at_lt (l := l) (i := i) (by omega)
    have e1 : iw .i64 ((i : Int) + 1) = ((i + 1 : Nat) : Int) := by rw [iw64] <;> omega
    have g1 : (0 : Int) ≤ i ∧ (i : Int) < l.length := ⟨by omega, by omega⟩
    rw [drop_at hx, bad0] at hb
    simp only [go_sem,g1,List.length_map,List.getElem?_map,hx]
    refine rK_use (enters_of Tryz.func63 rfl (by decide)) (check1_c s hs x) ?_
    rcases Decidable.em ((stand s x.at_).e = 0) with h0 | h0
    · rw [decide_eq_true h0, Bool.not_true]
      rw [if_pos h0] at hb
      simp only [go_sem,e1]
      exact hK (i + 1) _ _ ⟨by omega, hb⟩ (by omega) (Wk.slots' rfl (by simp [wkS, Ch.get]))
    · rw [decide_eq_false h0, Bool.not_false]
      rw [if_neg h0] at hb
      simp only [go_sem]
      refine .done ?_
      rw [← hpost, hb]
      exact ⟨rfl, rfl⟩
  · simp only [go_sem]
    have : i = l.length := by omega
    subst this
    rw [List.drop_length, bad0] at hb
    refine .done ?_
    rw [← hpost, hb]
    exact ⟨rfl, rfl⟩
theorem contains_c (s : Sp) (hs : s.ok) (l : List Pt) (hl : l.length ≤ 1000000) : ACalls Tryz.prog 62 [.view false 3 (l.map rp), .func (.func 63) [] [.ptr 0 0 0]] [spB (.view false 1 (s.perm.map r1)) (.view false 1 (s.byt.map rb))]
    (fun o H => o = .ret (.bool (decide (0 ≤ bad0 s l 0))) ∧ H = [spB (.view false 1 (s.perm.map r1)) (.view false 1 (s.byt.map rb))]) := by
  refine ACalls.up ?_
  refine ACalls.intro (cs := []) (n := 9) Tryz.func62 rfl rfl rfl (by kernel_rfl) rfl ?_
  simp only [go_sem]
  refine rK_use (enters_of Tryz.func107 rfl (by decide)) (index_c s hs l hl) ?_
  simp only [go_sem]
  exact .done ⟨rfl, rfl⟩
theorem pcheck_c (p : Pd) : ACalls Tryz.prog 25 [p.av] [] (fun o H => o = .ret (iv p.chk) ∧ H = []) := by
  refine ACalls.up ?_
  refine ACalls.intro (cs := []) (n := 79) Tryz.func25 rfl rfl rfl (by kernel_rfl) rfl ?_
  generalize hpost : (fun (o : Out) (H : Heap) => o = Out.ret (iv p.chk) ∧ H = []) = post
  have fin : ∀ n H, n = p.chk → Up 0 post (.ret (iv n)) H := fun n H h => finv rfl (by rw [← hpost, ← h]; exact ⟨rfl, rfl⟩) H
  simp only [go_sem,Pd.av]
  refine rK_use (enters_of Tryz.func61 rfl (by decide)) (ACalls.pure_use (mcheck_c p.s) rfl rfl) ?_
  by_cases hs : p.s.ok
  rotate_left
  · rw [Sp.chk, if_neg hs]
    simp only [go_sem]
    exact fin 70 _ (Pd.chk_no fun h => hs h.sok).symm
  rw [Sp.chk_ok hs]
  simp only [go_sem,List.length_map]
  refine condD_dec (fun hl => ?_) (fun hl => ?_)
  · simp only [go_sem]
    exact fin 70 _ (Pd.chk_no fun h => by have := h.len; omega).symm
  simp only [go_sem,List.length_map]
  have hbl := byt_len hs
  refine loop_fam (fun i : Nat => ((((Ch.nil.put 1 (.ptr 0 0 0)).put 17 (.view false 3 (p.l.map rp))).put 18 (iv p.l.length)).put 19 (iv i)))
    (fun _ => [.rows 3 [[.view false 1 (p.s.perm.map r1), .view false 1 (p.s.byt.map rb), .view false 3 (p.l.map rp)]]]) (fun i => p.l.length - i) (fun i => i ≤ p.l.length ∧ ∀ k, k < i → okAt p.s p.l k) 0 (by kernel_rfl) ⟨Nat.zero_le _, fun k hk => absurd hk (Nat.not_lt_zero _)⟩ (Wk.slots' rfl (by simp [wkS, Ch.get])) ?_
  rintro i ⟨hi, ha⟩ K hK
  simp only [go_sem]
  refine condD_dec (fun hc => ?_) (fun hc => ?_)
  · obtain ⟨x, hx⟩ := at_lt (l := p.l) (i := i) (by omega)
    have e1 : iw .i64 ((i : Int) + 1) = ((i + 1 : Nat) : Int) := by rw [iw64] <;> omega
    have g1 : (0 : Int) ≤ i ∧ (i : Int) < p.l.length := ⟨by omega, by omega⟩
    have bad : ¬ okAt p.s p.l i → ¬ p.ok := fun h hp => h ((okAt_all.2 ⟨hp.sor, hp.fits⟩) i (by omega))
    simp only [go_sem,g1,List.length_map,List.getElem?_map,hx]
    refine draw [.qu 0 0, .qu 0 0, .qu 0 0, .qu 0 0, .qu 0 0, .qu 0 0, .qu 0 0, .qu 0 0, .qu 0 0, .qu 0 0, .qu 0 0, .qu 0 0, .qu 0 0, .qu 0 0, .qu 0 0, .qu 0 0, .qu 0 0, .qu 0 0, .qu 0 0, .qu 0 0, .qu 0 0, .qu 0 0, .qu 0 0, .qu 0 0, .qu 0 0, .qu 0 0, .qu 0 0, .qu 0 0, .qu 0 0, .qu 0 0, .qu 0 0, .qu 0 0, .qu 0 0, .qu 0 0, .qu 0 0, .qu 0 0, .qu 0 0, .qu 0 0, .qu 0 0, .qu 0 0, .qu 0 0, .qu 0 0, .qu 0 0, .qu 0 0, .qu 0 0, .qu 0 0, .qu 0 0, .qu 0 0] (by kernel_rfl) (by kernel_rfl) ?_
    simp only [go_sem,List.length_map]
    have go : okAt p.s p.l i → ∀ s' H', Wk 0 79 s' H' (((((Ch.nil.put 1 (.ptr 0 0 0)).put 17 (.view false 3 (p.l.map rp))).put 18 (iv p.l.length)).put 19 (iv (i + 1 : Nat)))) [.rows 3 [[.view false 1 (p.s.perm.map r1), .view false 1 (p.s.byt.map rb), .view false 3 (p.l.map rp)]]] → K s' H' := fun h s' H' hw =>
      hK (i + 1) s' H' ⟨by omega, fun k hk => (Nat.lt_or_eq_of_le (Nat.le_of_lt_succ hk)).elim (fun hk => ha k hk) (fun e => e ▸ h)⟩ (by omega) hw
    refine dG_dec (fun c1 => ?_) (fun c1 => ?_)
    · simp only [go_sem,c1]
      exact fin 70 _ (Pd.chk_no (bad fun h => by have := (h x hx).1.a0; omega)).symm
    simp only [go_sem,c1,List.length_map]
    refine dG_dec (fun c2 => ?_) (fun c2 => ?_)
    · simp only [go_sem,c2]
      exact fin 70 _ (Pd.chk_no (bad fun h => by have := (h x hx).1.a1; omega)).symm
    obtain ⟨b, hb⟩ := at_lt (l := p.s.byt) (i := x.at_.toNat) (by omega)
    have g2 : (0 : Int) ≤ x.at_ ∧ x.at_ < p.s.byt.length := ⟨by omega, by omega⟩
    simp only [go_sem,c2]
    refine dG_dec (fun c3 => ?_) (fun c3 => ?_)
    · have e2 : iw .i64 ((i : Int) - 1) = ((i - 1 : Nat) : Int) := by rw [iw64] <;> omega
      obtain ⟨y, hy⟩ := at_lt (l := p.l) (i := i - 1) (by omega)
      have g3 : (0 : Int) ≤ ((i - 1 : Nat) : Int) ∧ ((i - 1 : Nat) : Int) < p.l.length := ⟨by omega, by omega⟩
      simp only [go_sem,c3,e2,g3,hy,List.length_map,List.getElem?_map]
      refine dG_dec (fun c4 => ?_) (fun c4 => ?_)
      · simp only [go_sem,c4]
        exact fin 70 _ (Pd.chk_no (bad fun h => by have := (h x hx).2 y (by omega) hy; omega)).symm
      simp only [go_sem,c4]
      have hadj : ∀ y, 0 < i → p.l[i - 1]? = some y → y.at_ < x.at_ := fun z _ hz => by rw [hy] at hz; cases hz; omega
      refine dG_dec (fun c5 => ?_) (fun c5 => ?_)
      · simp only [go_sem,c5]
        exact fin 70 _ (Pd.chk_no (bad fun h => by have := (h x hx).1.n1; omega)).symm
      simp only [go_sem,c5]
      refine dG_dec (fun c6 => ?_) (fun c6 => ?_)
      · simp only [go_sem,c6]
        exact fin 70 _ (Pd.chk_no (bad fun h => by have := (h x hx).1.n2; omega)).symm
      simp only [go_sem,c6,g2,List.length_map,List.getElem?_map,hb]
      refine condD_dec (fun c7 => ?_) (fun c7 => ?_)
      · simp only [go_sem]
        refine fin 70 _ (Pd.chk_no (bad fun h => ?_)).symm
        have := (h x hx).1.brk
        rw [hb] at this
        cases this
        exact absurd rfl c7
      · simp only [go_sem,e1]
        refine go (fun z hz => ?_) _ _ (Wk.drop (m := 1) (by simp [wkS, Ch.get]) (Nat.zero_le _) (by simp) (by simp [chLt, AV.lt]) rfl (by simp [Blk.lt, ltL, AV.lt]))
        rw [hx] at hz
        cases hz
        refine ⟨⟨by omega, by omega, by omega, by omega, ?_⟩, hadj⟩
        rw [hb]
        have : (b.toNat : Int) = 204 := Decidable.not_not.1 c7
        exact congrArg some (UInt8.toNat_inj.1 (show b.toNat = (204 : UInt8).toNat by simp; omega))
    · simp only [go_sem,c3]
      have hadj : ∀ y, 0 < i → p.l[i - 1]? = some y → y.at_ < x.at_ := fun z h0 _ => by omega
      refine dG_dec (fun c5 => ?_) (fun c5 => ?_)
      · simp only [go_sem,c5]
        exact fin 70 _ (Pd.chk_no (bad fun h => by have := (h x hx).1.n1; omega)).symm
      simp only [go_sem,c5]
      refine dG_dec (fun c6 => ?_) (fun c6 => ?_)
      · simp only [go_sem,c6]
        exact fin 70 _ (Pd.chk_no (bad fun h => by have := (h x hx).1.n2; omega)).symm
      simp only [go_sem,c6,g2,List.length_map,List.getElem?_map,hb]
      refine condD_dec (fun c7 => ?_) (fun c7 => ?_)
      · simp only [go_sem]
        refine fin 70 _ (Pd.chk_no (bad fun h => ?_)).symm
        have := (h x hx).1.brk
        rw [hb] at this
        cases this
        exact absurd rfl c7
      · simp only [go_sem,e1]
        refine go (fun z hz => ?_) _ _ (Wk.drop (m := 1) (by simp [wkS, Ch.get]) (Nat.zero_le _) (by simp) (by simp [chLt, AV.lt]) rfl (by simp [Blk.lt, ltL, AV.lt]))
        rw [hx] at hz
        cases hz
        refine ⟨⟨by omega, by omega, by omega, by omega, ?_⟩, hadj⟩
        rw [hb]
        have : (b.toNat : Int) = 204 := Decidable.not_not.1 c7
        exact congrArg some (UInt8.toNat_inj.1 (show b.toNat = (204 : UInt8).toNat by simp; omega))
  · simp only [go_sem]
    have : i = p.l.length := by omega
    subst this
    have hall := okAt_all.1 ha
    refine rK_use (enters_of Tryz.func50 rfl (by decide)) (ACalls.pure_use (clean_c p ⟨by have := hs.p32; omega, by omega, by omega⟩ fun y hy => ⟨(hall.2 y hy).a0, (hall.2 y hy).a1⟩) rfl rfl) ?_
    have hcs : p.clean.ok := putL_ok _ _ hs
    simp only [go_sem,Sp.av]
    refine rK_use (enters_of Tryz.func62 rfl (by decide)) ((contains_c p.clean hcs p.l (by omega)).useE [1] (.bool (decide (0 ≤ bad0 p.clean p.l 0))) [.rows 3 [[.view false 1 (p.s.perm.map r1), .view false 1 (p.s.byt.map rb), .view false 3 (p.l.map rp)]], spB (.view false 1 (p.clean.perm.map r1)) (.view false 1 (p.clean.byt.map rb))] (by simp) rfl (by simp) rfl rfl rfl rfl) ?_
    simp only [go_sem]
    have hbd := bad0_lt p.clean p.l 0
    refine condD_dec (fun hz => ?_) (fun hz => ?_)
    · simp only [go_sem]
      exact fin 70 _ (Pd.chk_no fun h => by have := hbd.2 h.std; omega).symm
    · simp only [go_sem]
      exact fin 0 _ (Pd.chk_ok ⟨hs, by omega, hall.1, hall.2, hbd.1 (by omega)⟩).symm
end Go.Proofs.YtfiflailjbmlpaaGreatDoor
set_option maxRecDepth 100000
set_option linter.unusedVariables false
set_option linter.unusedSimpArgs false
namespace Go.Proofs.YtfiflailjbmlpaaGreatDoor
open Go.AM
theorem immD_eq (i a b : Int) : iw .i64 (iw .i64 (i + a) - b) = immD i a b := by
  unfold immD
  refine iw_congr ?_
  rw [iwi64, iwi64]
  omega
theorem displaced_c (x : Ins) (a b : Int) : ACalls Tryz.prog 52 [x.av, iv a, iv b] [] (fun o H => o = .ret (.tuple [(dispE x a b).1.av, iv (dispE x a b).2]) ∧ H = []) := by
  refine ACalls.up ?_
  refine ACalls.intro (cs := []) (n := 49) Tryz.func52 rfl rfl rfl (by kernel_rfl) rfl ?_
  generalize hpost : (fun (o : Out) (H : Heap) => o = Out.ret (.tuple [(dispE x a b).1.av, iv (dispE x a b).2]) ∧ H = []) = post
  have fin : ∀ y n H, (y, n) = dispE x a b → Up 0 post (.ret (.tuple [.agg y.cells, iv n])) H := fun y n H h => finv rfl (by rw [← hpost, ← h]; exact ⟨rfl, rfl⟩) H
  obtain ⟨op, xa, xb, imm⟩ := x
  have e1 := immD_eq imm a b
  have e2 : iw .i64 (imm + iw .i64 (a - b)) = immD imm a b := rfl
  have hok := Decidable.em (Ins.ok ⟨op, xa, xb, immD imm a b⟩)
  have hck := icheck_c ⟨op, xa, xb, immD imm a b⟩
  have k0 : Ins.ok ⟨op, xa, xb, immD imm a b⟩ → Ins.chk ⟨op, xa, xb, immD imm a b⟩ = 0 := fun h => if_pos h
  have k1 : ¬ Ins.ok ⟨op, xa, xb, immD imm a b⟩ → Ins.chk ⟨op, xa, xb, immD imm a b⟩ = 20 := fun h => if_neg h
  have f2 := fin ⟨op, xa, xb, immD imm a b⟩ 2
  have f3 := fin ⟨op, xa, xb, imm⟩ 3
  by_cases h1 : op = 27 ∨ op = 28 ∨ op = 33 ∨ op = 76
  · have hf : ((⟨op, xa, xb, imm⟩ : Ins), (3 : Int)) = dispE ⟨op, xa, xb, imm⟩ a b := by rw [dispE, if_pos h1]
    rcases h1 with rfl | rfl | rfl | rfl
    all_goals
      simp only [go_sem,Ins.av,Ins.cells]
      exact fin _ _ _ hf
  by_cases h2 : 21 ≤ op ∧ op ≤ 25
  · have h2' : op = 21 ∨ op = 22 ∨ op = 23 ∨ op = 24 ∨ op = 25 := by omega
    rcases h2' with rfl | rfl | rfl | rfl | rfl
    all_goals
      simp only [go_sem,Ins.av,Ins.cells,e1]
      refine condD_dec (fun hz => ?_) (fun hz => ?_)
      · simp only [go_sem]
        exact fin _ _ _ (by rw [dispE, if_neg h1, if_pos ⟨by simp, by simp, hz⟩])
      · simp only [go_sem,e2]
        refine rK_use (enters_of Tryz.func51 rfl (by decide)) (ACalls.pure_use hck rfl rfl) ?_
        rcases hok with hk | hk
        · rw [k0 hk]
          simp only [go_sem]
          exact f2 _ (by rw [dispE, if_neg h1, if_neg (by first | exact fun h => hz h.2.2 | exact fun h => absurd h.2.1 (by simp)), if_pos (by simp)]; exact (if_pos hk).symm)
        · rw [k1 hk]
          simp only [go_sem]
          exact f3 _ (by rw [dispE, if_neg h1, if_neg (by first | exact fun h => hz h.2.2 | exact fun h => absurd h.2.1 (by simp)), if_pos (by simp)]; exact (if_neg hk).symm)
  by_cases h4 : op = 32
  · subst h4
    simp only [go_sem,Ins.av,Ins.cells,e2]
    refine rK_use (enters_of Tryz.func51 rfl (by decide)) (ACalls.pure_use hck rfl rfl) ?_
    rcases hok with hk | hk
    · rw [k0 hk]
      simp only [go_sem]
      exact f2 _ (by rw [dispE, if_neg h1, if_neg (by first | exact fun h => hz h.2.2 | exact fun h => absurd h.2.1 (by simp)), if_pos (by simp)]; exact (if_pos hk).symm)
    · rw [k1 hk]
      simp only [go_sem]
      exact f3 _ (by rw [dispE, if_neg h1, if_neg (by first | exact fun h => hz h.2.2 | exact fun h => absurd h.2.1 (by simp)), if_pos (by simp)]; exact (if_neg hk).symm)
  · have q1 : ¬ op = 27 := by omega
    have q2 : ¬ op = 28 := by omega
    have q3 : ¬ op = 33 := by omega
    have q4 : ¬ op = 76 := by omega
    have q5 : ¬ op = 21 := by omega
    have q6 : ¬ op = 22 := by omega
    have q7 : ¬ op = 23 := by omega
    have q8 : ¬ op = 24 := by omega
    have q9 : ¬ op = 25 := by omega
    simp only [go_sem,Ins.av,Ins.cells,q1,q2,q3,q4,q5,q6,q7,q8,q9,h4]
    exact fin ⟨op, xa, xb, imm⟩ 1 _ (by rw [dispE, if_neg h1, if_neg (fun h => h2 ⟨h.1, h.2.1⟩), if_neg (fun h => h.elim h2 h4)])
theorem Displace_c (x : Ins) (hx : x.ok) (a b : Int) : ACalls Tryz.prog 15 [x.av, iv a, iv b] [] (fun o H => o = .ret (.tuple [(dispE x a b).1.av, iv (dispE x a b).2, iv 0]) ∧ H = []) := by
  refine ACalls.up ?_
  refine ACalls.intro (cs := []) (n := 27) Tryz.func15 rfl rfl rfl (by kernel_rfl) rfl ?_
  generalize hpost : (fun (o : Out) (H : Heap) => o = Out.ret (.tuple [(dispE x a b).1.av, iv (dispE x a b).2, iv 0]) ∧ H = []) = post
  simp only [go_sem,Ins.av,Ins.cells]
  refine rK_use (enters_of Tryz.func51 rfl (by decide)) (ACalls.pure_use (icheck_c x) rfl rfl) ?_
  rw [Ins.chk, if_pos hx]
  simp only [go_sem]
  refine rK_use (enters_of Tryz.func52 rfl (by decide)) (ACalls.pure_use (displaced_c x a b) rfl rfl) ?_
  simp only [go_sem,Ins.av,Ins.cells]
  refine finv rfl ?_ _
  rw [← hpost]
  exact ⟨rfl, rfl⟩
theorem fnd_cur (p : Pd) (a : Int) : fnd a p.l = (p.cur a).isSome := by
  unfold fnd Pd.cur
  cases p.l[lb a p.l]? with
  | none => rfl
  | some y =>
    simp only
    split
    · rename_i h; simp [h]
    · rename_i h; simp [h]
end Go.Proofs.YtfiflailjbmlpaaGreatDoor
set_option maxRecDepth 100000
set_option linter.unusedVariables false
set_option linter.unusedSimpArgs false
namespace Go.Proofs.YtfiflailjbmlpaaGreatDoor
open Go.AM
abbrev rz : List AV := [iv 0, .int .u8 0, iv 0]
theorem delete_c (l : List Pt) (i : Nat) (hi : i < l.length) (hl : l.length ≤ 1000) : ACalls Tryz.prog 59 [.sl 0 0 l.length none, iv i, iv ((i + 1 : Nat) : Int)] [.rows 3 (l.map rp)]
    (fun o H => o = .ret (.sl 0 0 (l.length - 1) none) ∧ H = [.rows 3 ((l.eraseIdx i).map rp ++ [rz])]) := by
  refine ACalls.caps fun c h1 h2 => ACalls.up ?_
  refine ACalls.intro (cs := []) (n := 33) Tryz.func59 rfl rfl rfl (by kernel_rfl) rfl ?_
  generalize hpost : (fun (o : Out) (H : Heap) => o = Out.ret (.sl 0 0 (l.length - 1) none) ∧ H = [.rows 3 ((l.eraseIdx i).map rp ++ [rz])]) = post
  have g1 : (0 : Int) ≤ i ∧ (i : Int) ≤ ((i + 1 : Nat) : Int) ∧ ((i + 1 : Nat) : Int) ≤ (l.length : Int) ∧ (l.length : Int) ≤ (c : Int) := ⟨by omega, by omega, by omega, by omega⟩
  have g2 : ¬ ((i : Int) = ((i + 1 : Nat) : Int)) := by omega
  simp only [go_sem,g1,g2,Nat.sub_zero]
  refine draw [.qu 0 0, .qu 0 0, .qu 0 0, .qu 0 0, .qu 0 0, .qu 0 0, .mn 0, .qu 1 1] (by kernel_rfl) (by kernel_rfl) ?_
  have g3 : (i : Int) ≤ c ∧ (0 : Int) ≤ ((i + 1 : Nat) : Int) := ⟨by omega, by omega⟩
  have g4 : ¬ c = 0 := by omega
  have g5 : i ≤ l.length ∧ i + (l.length - (i + 1)) ≤ 68719476736 ∧ i + (l.length - (i + 1)) ≤ c := ⟨by omega, by omega, by omega⟩
  have e1 : ((l.map rp).drop (i + 1)).take (l.length - (i + 1)) = (l.drop (i + 1)).map rp := by
    rw [← List.map_drop, List.take_of_length_le (by simp)]
  have e2 : ((l.drop (i + 1)).map rp).length = l.length - (i + 1) := by simp
  simp only [go_sem,g1,g3,g4,g5,Nat.sub_zero,e1,e2,List.length_map]
  have e3 : i + (l.length - (i + 1)) = l.length - 1 := by omega
  have e4 : (l.eraseIdx i).map rp = (l.map rp).take i ++ (l.drop (i + 1)).map rp := by
    rw [List.eraseIdx_eq_take_drop_succ, List.map_append, List.map_take]
  rw [e3]
  obtain ⟨R, hR⟩ : ∃ R, R = (l.map rp).take i ++ ((l.drop (i + 1)).map rp ++ (l.map rp).drop (l.length - 1)) := ⟨_, rfl⟩
  rw [← hR]
  have hRl : R.length = l.length := by rw [hR]; simp; omega
  have hR1 : R.take (l.length - 1) = (l.eraseIdx i).map rp := by
    rw [hR, ← List.append_assoc, ← e4, List.take_append_of_le_length (by simp [List.length_eraseIdx, hi]), List.take_of_length_le (by simp [List.length_eraseIdx, hi])]
  have g6 : (0 : Int) ≤ ((l.length - 1 : Nat) : Int) ∧ ((l.length - 1 : Nat) : Int) ≤ (l.length : Int) := ⟨by omega, by omega⟩
  have g7 : l.length - 1 + (l.length - (l.length - 1)) ≤ l.length ∧ l.length - (l.length - 1) = 1 := ⟨by omega, by omega⟩
  have g8 : l.length - 1 + 1 ≤ l.length := by omega
  have e5 : R.drop (l.length - 1 + 1) = [] := List.drop_of_length_le (by omega)
  simp only [go_sem,g1,g3,g4,g5,g6,g7,g8,hRl,hR1,e5,Nat.sub_zero]
  refine .le (.ret (.cap ..)) (LeH.refl _) (.done ?_)
  rw [← hpost]
  exact ⟨rfl, rfl⟩
theorem ovl_ok : OvlOk Tryz.prog 124 := by
  refine ⟨Tryz.f124, 26, 4, 92, 3, Tryz.func124, by kernel_rfl, by kernel_rfl, by kernel_rfl, by kernel_rfl, Tryz.underlying26, fun w => ?_⟩
  exact run_size_ti T92 w
theorem insert_c (l : List Pt) (i : Nat) (hi : i ≤ l.length) (hl : l.length ≤ 1000) (x : Pt) : ACalls Tryz.prog 104 [.sl 0 0 l.length none, iv i, .sl 1 0 1 (some 1)] [.rows 3 (l.map rp), .rows 3 [rp x]]
    (fun o H => o = .ret (.sl 2 0 (l.length + 1) none) ∧ H = [.dead, .dead, .rows 3 ((l.take i ++ x :: l.drop i).map rp)]) := by
  refine ACalls.caps fun c h1 h2 => ACalls.up ?_
  refine ACalls.intro (cs := []) (n := 95) Tryz.func104 rfl rfl rfl (by kernel_rfl) rfl ?_
  generalize hpost : (fun (o : Out) (H : Heap) => o = Out.ret (.sl 2 0 (l.length + 1) none) ∧ H = [.dead, .dead, .rows 3 ((l.take i ++ x :: l.drop i).map rp)]) = post
  have g1 : (0 : Int) ≤ i ∧ (i : Int) ≤ (l.length : Int) := ⟨by omega, by omega⟩
  simp only [go_sem,g1,Nat.sub_zero]
  refine condD_dec (fun hc => ?_) (fun hc => ?_)
  · have hil : i = l.length := by omega
    subst hil
    have g2 : l.length ≤ 68719476735 := by omega
    have e1 : (l.map rp).take l.length = l.map rp := List.take_of_length_le (by simp)
    have e2 : (l.map rp).drop (l.length + 1) = [] := List.drop_of_length_le (by simp)
    have e3 : (l.take l.length ++ x :: l.drop l.length).map rp = l.map rp ++ [rp x] := by simp
    rcases Decidable.em (c = 0) with h0 | h0
    · simp only [go_sem,Nat.sub_zero,eq_true h0,g2,e1,List.length_map]
      refine .dead 1 (.done ?_)
      rw [← hpost, e3]
      exact ⟨rfl, rfl⟩
    · rcases Decidable.em (l.length + 1 ≤ c) with h3 | h3
      · simp only [go_sem,Nat.sub_zero,eq_false h0,eq_true h3,g2,e1,e2,List.length_map]
        refine .le (.ret (.cap ..)) (LeH.refl _) (.mv (o' := .ret (.sl 2 0 (l.length + 1) none)) 0 (Nat.le_refl _) rfl rfl (.dead 1 (.done ?_)))
        rw [← hpost, e3]
        exact ⟨rfl, rfl⟩
      · simp only [go_sem,Nat.sub_zero,eq_false h0,eq_false h3,g2,e1,e2,List.length_map]
        refine .dead 0 (.dead 1 (.done ?_))
        rw [← hpost, e3]
        exact ⟨rfl, rfl⟩
  · have e1 : iw .i64 ((l.length : Int) + 1) = ((l.length + 1 : Nat) : Int) := by rw [iw64] <;> omega
    have e2 : iw .i64 ((i : Int) + 1) = ((i + 1 : Nat) : Int) := by rw [iw64] <;> omega
    have e3 : iw .i64 (((l.length + 1 : Nat) : Int) - i) = ((l.length + 1 - i : Nat) : Int) := by rw [iw64] <;> omega
    have h0 : ¬ c = 0 := by omega
    have hil : i < l.length := by omega
    rcases Decidable.em (((c : Nat) : Int) < ((l.length + 1 : Nat) : Int)) with h3 | h3
    · have g3 : (0 : Int) ≤ (i : Int) ∧ (i : Int) ≤ (c : Int) := ⟨by omega, by omega⟩
      have g4 : i ≤ l.length ∧ (0 : Int) ≤ ((l.length + 1 - i : Nat) : Int) ∧ c < i + (l.length + 1 - i) ∧ i + (l.length + 1 - i) ≤ 68719476736 := ⟨by omega, by omega, by omega, by omega⟩
      simp only [go_sem,Nat.sub_zero,e1,e2,e3,eq_true h3,eq_false h0,g3,g4,List.length_map]
      have e4 : i + (l.length + 1 - i) = l.length + 1 := by omega
      rw [e4]
      obtain ⟨A, hA⟩ : ∃ A, A = (l.map rp).take i ++ List.replicate (l.length + 1 - i) rz := ⟨_, rfl⟩
      rw [← hA]
      have hA1 : A.take i = (l.map rp).take i := by rw [hA, List.take_append_of_le_length (by simp; omega), List.take_take, Nat.min_self]
      have hA2 : A.length = l.length + 1 := by rw [hA]; simp; omega
      have g5 : (i : Int) ≤ ((l.length + 1 : Nat) : Int) ∧ 1 ≤ l.length + 1 - i ∧ i ≤ l.length + 1 := ⟨by omega, by omega, by omega⟩
      simp only [go_sem,Nat.sub_zero,g3,g5,hA2,hA1]
      obtain ⟨B, hB⟩ : ∃ B, B = (l.map rp).take i ++ rp x :: A.drop (i + 1) := ⟨_, rfl⟩
      rw [← hB]
      have hB1 : B.take (i + 1) = (l.map rp).take i ++ [rp x] := by
        have hl : ((l.map rp).take i).length = i := by simp; omega
        rw [hB, List.take_append, hl, List.take_of_length_le (by rw [hl]; omega), show i + 1 - i = 1 by omega]
        rfl
      have hB2 : B.length = l.length + 1 := by rw [hB]; simp [hA2]; omega
      refine draw [.qu 0 0, .qu 0 0, .qu 0 0, .qu 0 0, .qu 0 0, .qu 0 0, .qu 0 0, .qu 0 0, .mn 0] (by kernel_rfl) (by kernel_rfl) ?_
      have g6 : (0 : Int) ≤ ((i + 1 : Nat) : Int) ∧ ((i + 1 : Nat) : Int) ≤ ((l.length + 1 : Nat) : Int) ∧ i + 1 ≤ l.length + 1 ∧ l.length - i ≤ l.length + 1 - (i + 1) ∧ (i : Int) ≤ (l.length : Int) := ⟨by omega, by omega, by omega, by omega, by omega⟩
      have e5 : ((l.map rp).drop i).take (l.length - i) = (l.drop i).map rp := by rw [← List.map_drop, List.take_of_length_le (by simp)]
      have e6 : ((l.drop i).map rp).length = l.length - i := by simp
      have e7 : B.drop (i + 1 + (l.length - i)) = [] := List.drop_of_length_le (by omega)
      simp only [go_sem,Nat.sub_zero,e2,g3,g6,hB1,hB2,e5,e6,e7]
      refine .dead 0 (.dead 1 (.done ?_))
      rw [← hpost]
      refine ⟨rfl, ?_⟩
      simp
    · have g3 : (0 : Int) ≤ (i : Int) ∧ (i : Int) ≤ (c : Int) := ⟨by omega, by omega⟩
      have g4 : (0 : Int) ≤ ((l.length + 1 : Nat) : Int) ∧ ((l.length + 1 : Nat) : Int) ≤ (c : Int) ∧ (0 : Int) ≤ ((i + 1 : Nat) : Int) ∧ ((i + 1 : Nat) : Int) ≤ ((l.length + 1 : Nat) : Int) ∧ (i : Int) ≤ ((l.length + 1 : Nat) : Int) := ⟨by omega, by omega, by omega, by omega, by omega⟩
      simp only [go_sem,Nat.sub_zero,e1,e2,e3,eq_false h3,eq_false h0,g3,g4,List.length_map,eq_true ovl_ok]
      refine draw [.qu 0 0, .qu 0 0, .qu 0 0, .qu 0 0, .qu 0 0, .qu 0 0, .qu 0 0, .qu 0 0, .mn 0] (by kernel_rfl) (by kernel_rfl) ?_
      have g5 : ¬ (l.length + 1 - i ≤ l.length + 1 - (i + 1)) := by omega
      have g6 : i + 1 ≤ l.length := by omega
      have e5 : ((l.map rp).drop i).take (l.length + 1 - (i + 1)) = (l.drop i).map rp := by rw [← List.map_drop, List.take_of_length_le (by simp)]
      have e6 : ((l.drop i).map rp).length = l.length + 1 - (i + 1) := by simp
      have e7 : (l.map rp).drop (i + 1 + (l.length + 1 - (i + 1))) = [] := List.drop_of_length_le (by simp; omega)
      simp only [go_sem,Nat.sub_zero,e1,e2,g3,g4,g5,g6,e5,e6,e7,List.length_map]
      obtain ⟨R, hR⟩ : ∃ R, R = (l.map rp).take (i + 1) ++ (l.drop i).map rp := ⟨_, rfl⟩
      rw [← hR]
      have hR1 : R.take i = (l.map rp).take i := by rw [hR, List.take_append_of_le_length (by simp; omega), List.take_take, show min i (i + 1) = i by omega]
      have hR2 : R.length = l.length + 1 := by rw [hR]; simp; omega
      have hR3 : R.drop (i + 1) = (l.drop i).map rp := by
        have hl : ((l.map rp).take (i + 1)).length = i + 1 := by simp; omega
        rw [hR, List.drop_append, hl, List.drop_of_length_le (by rw [hl]; omega), Nat.sub_self]
        rfl
      have g7 : 1 ≤ l.length + 1 - i ∧ i ≤ l.length + 1 := ⟨by omega, by omega⟩
      simp only [go_sem,Nat.sub_zero,e1,e2,g3,g4,g7,hR1,hR2,hR3]
      refine .le (.ret (.cap ..)) (LeH.refl _) (.mv (o' := .ret (.sl 2 0 (l.length + 1) none)) 0 (Nat.le_refl _) rfl rfl (.dead 1 (.done ?_)))
      rw [← hpost]
      refine ⟨rfl, ?_⟩
      simp
end Go.Proofs.YtfiflailjbmlpaaGreatDoor
set_option maxRecDepth 100000
set_option linter.unusedVariables false
set_option linter.unusedSimpArgs false
namespace Go.Proofs.YtfiflailjbmlpaaGreatDoor
open Go.AM
abbrev rfd (e : Int) : AV := .iface 132 (.agg [iv e])
theorem pmust_ok : ACalls Tryz.prog 57 [iv 0] [] (fun o H => o = .ret (.tuple []) ∧ H = []) := by
  refine ACalls.up ?_
  refine ACalls.intro (cs := []) (n := 7) Tryz.func57 rfl rfl rfl (by kernel_rfl) rfl ?_
  simp only [go_sem]
  exact .done ⟨rfl, rfl⟩
theorem pmust_no (e : Int) (h : e ≠ 0) : ACalls Tryz.prog 57 [iv e] [] (fun o H => o = .pan (rfd e) ∧ H = []) := by
  refine ACalls.up ?_
  refine ACalls.intro (cs := []) (n := 7) Tryz.func57 rfl rfl rfl (by kernel_rfl) rfl ?_
  simp only [go_sem,eq_false h]
  exact .done ⟨rfl, rfl⟩
theorem hK_app {P : Program} {ops : Array Oper} {rest : List Oper} {Q : XQ} {s : Ch} {H : Heap} : hK P ops rest Q s H = cops P ops rest Q s H := id rfl
theorem caught_res : Tryz.f40.results.toList = [ResultVar.cell 2 41] := rfl
theorem app_at {H : Heap} {n : Nat} (h : H.length = n) (x : Blk) : (H ++ [x])[n]? = some x := by subst h; simp
theorem app_set {H : Heap} {n : Nat} (h : H.length = n) (x y : Blk) : (H ++ [x]).set n y = H ++ [y] := by subst h; simp
theorem app2_a {H : Heap} {n : Nat} (h : H.length = n) (x y : Blk) : (H ++ [x, y])[n]? = some x := by subst h; simp
theorem app2_b {H : Heap} {n : Nat} (h : H.length = n) (x y : Blk) : (H ++ [x, y])[n + 1]? = some y := by subst h; simp
theorem app2_sa {H : Heap} {n : Nat} (h : H.length = n) (x y z : Blk) : (H ++ [x, y]).set n z = H ++ [z, y] := by subst h; simp
theorem app2_sb {H : Heap} {n : Nat} (h : H.length = n) (x y z : Blk) : (H ++ [x, y]).set (n + 1) z = H ++ [x, z] := by subst h; simp
section
variable {g : FuncId} {cap : List AV} {H H' : Heap}
theorem caught_ret (hE : Enters Tryz.prog g) (hc : ACalls Tryz.prog g cap H (fun o H2 => o = .ret (.tuple []) ∧ H2 = H')) (ha : ltL H.length cap = true) (h1 : ∀ b ∈ H, b.lt H.length) (h2 : ∀ b ∈ H', b.lt H.length) (hl : H'.length = H.length) :
    ACalls Tryz.prog 40 [.func (.func g) [] cap] H (fun o H2 => o = .ret (iv 0) ∧ H2 = H') := by
  refine ACalls.up ?_
  refine ACalls.introD (n := 6) Tryz.func40 rfl (by kernel_rfl) rfl ?_
  refine DWp.seq (by kernel_rfl) ?_
  generalize hpost : (fun (o : Out) (H2 : Heap) => o = Out.ret (iv 0) ∧ H2 = H') = post
  simp only [go_sem,hK_app]
  refine DWp.defer (by kernel_rfl) rfl (by kernel_rfl) (by kernel_rfl) ?_
  simp only [go_sem,hK_app,List.length_append]
  refine ⟨(enters_of Tryz.func79 rfl (by decide)), fun d => ?_⟩
  refine rK_use hE (hc.frame (R := [.rows 1 [[iv 0]]]) ha rfl h1 h2 hl) ?_
  simp only [go_sem,hK_app,app_at hl,app_set hl]
  refine ADef.intro (n := 12) Tryz.func79 rfl rfl (by kernel_rfl) rfl (by kernel_rfl) ?_
  simp only [go_sem,hK_app,app_at hl,app_set hl,caught_res]
  refine .gc H.length (Nat.le_refl _) (by simp; omega) rfl ?_ (.done ?_)
  · rw [← hl, List.take_left]
    rw [hl]; exact h2
  · rw [← hpost, ← hl, List.take_left]
    exact ⟨rfl, rfl⟩
theorem caught_pan (e : Int) (hE : Enters Tryz.prog g) (hc : ACalls Tryz.prog g cap H (fun o H2 => o = .pan (rfd e) ∧ H2 = H')) (ha : ltL H.length cap = true) (h1 : ∀ b ∈ H, b.lt H.length) (h2 : ∀ b ∈ H', b.lt H.length) (hl : H'.length = H.length) :
    ACalls Tryz.prog 40 [.func (.func g) [] cap] H (fun o H2 => o = .ret (iv e) ∧ H2 = H') := by
  refine ACalls.up ?_
  refine ACalls.introD (n := 6) Tryz.func40 rfl (by kernel_rfl) rfl ?_
  refine DWp.seq (by kernel_rfl) ?_
  generalize hpost : (fun (o : Out) (H2 : Heap) => o = Out.ret (iv e) ∧ H2 = H') = post
  simp only [go_sem,hK_app]
  refine DWp.defer (by kernel_rfl) rfl (by kernel_rfl) (by kernel_rfl) ?_
  simp only [go_sem,hK_app,List.length_append]
  refine ⟨(enters_of Tryz.func79 rfl (by decide)), fun d => ?_⟩
  refine rK_pans hE (hc.framep (R := [.rows 1 [[iv 0]]]) ha rfl h1 h2 hl) ?_
  simp only [go_sem,hK_app,app_at hl,app_set hl]
  refine ADef.intro (n := 12) Tryz.func79 rfl rfl (by kernel_rfl) rfl (by kernel_rfl) ?_
  simp only [go_sem,hK_app,app_at hl,app_set hl,app2_a hl,app2_b hl,app2_sa hl,app2_sb hl,List.length_append,hl,caught_res]
  refine .gc H.length (Nat.le_refl _) (by simp; omega) rfl ?_ (.done ?_)
  · rw [← hl, List.take_left]
    rw [hl]; exact h2
  · rw [← hpost, ← hl, List.take_left]
    exact ⟨rfl, rfl⟩
end
end Go.Proofs.YtfiflailjbmlpaaGreatDoor
set_option maxRecDepth 100000
set_option linter.unusedVariables false
set_option linter.unusedSimpArgs false
namespace Go.Proofs.YtfiflailjbmlpaaGreatDoor
open Go.AM
theorem find_l {l : List Pt} (hs : Srt l) (hl : l.length ≤ 1000000) (a : Int) (r : Nat) {H : Heap} (hH : H[r]? = some (.rows 3 (l.map rp))) :
    ACalls Tryz.prog 48 [.sl r 0 l.length none, iv a] H (fun o H2 => o = .ret (.tuple [iv (lb a l), .bool (fnd a l)]) ∧ H2 = H) := by
  have e : fzL r 3 (l.map rp) [.sl r 0 l.length none, iv a] = [.view false 3 (l.map rp), iv a] := by
    simp only [fzL, AV.fz, List.drop_zero, if_true]
    rw [List.take_of_length_le (by simp)]
  refine ACalls.lend r rfl hH (rp_pure l) (by simp [fzOkL, AV.fzOk]) (by rw [e]; rfl) ?_
  rw [e]
  exact find_c l hs hl a
theorem bren_rp (π : Nat → Nat) (l : List Pt) : Blk.ren π (.rows 3 (l.map rp)) = .rows 3 (l.map rp) := by
  rw [Blk.ren]
  congr 1
  rw [List.map_map]
  exact List.map_congr_left fun x _ => rfl
theorem cur_lt {p : Pd} {a : Int} {y : Pt} (h : p.cur a = some y) : lb a p.l < p.l.length := (List.getElem?_eq_some_iff.1 (Pd.cur_at h).1).1
theorem set_rp (l : List Pt) (i : Nat) (x : Pt) : (l.map rp).set i (rp x) = (l.set i x).map rp := by rw [List.map_set]
theorem up_pd {post : CQ} {H : Heap} {q : Pd} (r k : Nat) (nb nl : Nat) (xs ys : List (List AV)) (hrk : r ≠ k) (hr : H[r]? = some (.rows 1 xs)) (hk : H[k]? = some (.rows 3 ys)) (hx : xs.take nb = q.s.byt.map rb) (hy : ys.take nl = q.l.map rp) (hxl : nb ≤ xs.length) (hyl : nl ≤ ys.length)
    (hp : ∀ row ∈ xs, ltL 0 row = true) (hp2 : ∀ row ∈ ys, ltL 0 row = true) (h : post (.ret q.av) []) : Up 0 post (.ret (.agg [.view false 1 (q.s.perm.map r1), .sl r 0 nb none, .sl k 0 nl none])) H := by
  have hkr : ¬ k = r := fun h => hrk h.symm
  refine up_two r 1 xs k 3 ys hrk hr hk hp hp2 ?_ ?_ ?_ ?_
  · simp [Out.fzOk, AV.fzOk, fzOkL, hxl, hkr]
  · simp [Out.fzOk, Out.fz, AV.fz, fzL, AV.fzOk, fzOkL, hkr, hyl]
  · simp [Out.fz, AV.fz, fzL, Out.lt, AV.lt, ltL, hkr]
  · simp only [Out.fz, AV.fz, fzL, if_true, if_neg hkr, List.drop_zero, hx, hy]
    exact h
theorem install_ok (p : Pd) (h : p.ok) (a : Int) (ha : I64 a) (h0 : (p.inst a).2 = 0) : ACalls Tryz.prog 55 [p.av, iv a] [] (fun o H => o = .ret (p.inst a).1.av ∧ H = []) := by
  refine ACalls.up ?_
  refine ACalls.intro (cs := []) (n := 76) Tryz.func55 rfl rfl rfl (by kernel_rfl) rfl ?_
  generalize hpost : (fun (o : Out) (H : Heap) => o = Out.ret (p.inst a).1.av ∧ H = []) = post
  have hl := h.len
  have hbl := byt_len h.sok
  simp only [go_sem,Pd.av]
  refine rK_use (enters_of Tryz.func25 rfl (by decide)) (ACalls.pure_use (pcheck_c p) rfl rfl) ?_
  rw [Pd.chk_ok h]
  simp only [go_sem]
  refine rK_use (enters_of Tryz.func57 rfl (by decide)) (ACalls.pure_use (pmust_ok) rfl rfl) ?_
  simp only [go_sem]
  refine rK_use (enters_of Tryz.func58 rfl (by decide)) (pcopied_u p h.fit _) ?_
  simp only [go_sem]
  refine rK_use (enters_of Tryz.func48 rfl (by decide)) (find_l h.sor (by omega) a 3 rfl) ?_
  rw [fnd_cur]
  unfold Pd.inst at h0 hpost
  cases hc : p.cur a with
  | some y =>
    rw [hc] at h0 hpost
    simp only at h0 hpost
    have hlb := cur_lt hc
    obtain ⟨hy, hya⟩ := Pd.cur_at hc
    have hf := h.fits y (List.mem_of_getElem? hy)
    have hn1 := hf.n1
    have hn2 := hf.n2
    by_cases hn : y.n = 1000
    · rw [if_pos hn] at h0; cases h0
    rw [if_neg hn] at hpost
    have g1 : (0 : Int) ≤ (lb a p.l : Int) ∧ (lb a p.l : Int) < (p.l.length : Int) := ⟨by omega, by omega⟩
    have e1 : iw .i64 (y.n + 1) = y.n + 1 := by rw [iw64] <;> omega
    simp only [go_sem,Option.isSome_some,g1,hy,List.length_map,List.getElem?_map,eq_false hn,e1,hlb]
    refine up_pd (q := ⟨p.s, p.l.set (lb a p.l) ⟨y.at_, y.old, y.n + 1⟩⟩) 2 3 p.s.byt.length p.l.length _ _ (by decide) rfl rfl (List.take_of_length_le (by simp)) ?_ (by simp) (by simp) (rb_lt0 _) ?_ ?_
    · rw [set_rp _ _ ⟨y.at_, y.old, y.n + 1⟩, List.take_of_length_le (by simp)]
    · rw [set_rp _ _ ⟨y.at_, y.old, y.n + 1⟩]
      exact rp_lt0 _
    · rw [← hpost]
      exact ⟨rfl, rfl⟩
  | none =>
    rw [hc] at h0 hpost
    simp only at h0 hpost
    simp only [go_sem,Option.isSome_none]
    refine rK_use (enters_of Tryz.func49 rfl (by decide)) (ACalls.pure_use (standing_c p.s h.sok a) rfl (by simp [sitC, Ins.cells, AV.lt, ltL])) ?_
    by_cases hst : (stand p.s a).e = 0
    rotate_left
    · rw [if_neg hst] at h0; cases h0
    rw [if_pos hst] at h0 hpost
    by_cases hn : p.l.length = 64
    · rw [if_pos hn] at h0; cases h0
    rw [if_neg hn] at hpost
    have hn' : ¬ (p.l.length : Int) = 64 := by omega
    obtain ⟨b0, b1, _, d, _, _, hd⟩ := stand_at ha (by rw [hst]; decide)
    rw [hd, Option.getD_some] at hpost
    have g2 : (0 : Int) ≤ a ∧ a < (p.s.byt.length : Int) := ⟨b0, b1⟩
    have g3 : a.toNat < p.s.byt.length := by omega
    simp only [go_sem,decide_eq_true hst,sitC,Ins.cells,eq_false hn']
    refine draw [.qu 0 1, .rd 0 1, .qu 0 1, .qu 0 0, .qu 0 0, .qu 0 0, .qu 0 0, .qu 0 0, .qu 0 0, .qu 0 0, .qu 0 0, .mn 0, .mn 1, .qu 2 2, .mn 2] (by kernel_rfl) (by kernel_rfl) ?_
    simp only [go_sem,g2,hd,List.length_map,List.getElem?_map]
    have hins : insL a ⟨a, d, 1⟩ p.l = p.l.take (lb a p.l) ++ ⟨a, d, 1⟩ :: p.l.drop (lb a p.l) := rfl
    refine dM_call (enters_of Tryz.func104 rfl (by decide)) ((insert_c p.l (lb a p.l) (lb_le a p.l) (by omega) ⟨a, d, 1⟩).useE [3, 6] (.sl 7 0 (p.l.length + 1) none) [.rows 3 [[.view false 1 (p.s.perm.map r1), .view false 1 (p.s.byt.map rb), .view false 3 (p.l.map rp)]], .rows 3 [[.view true 0 [], .view true 0 [], .view true 0 []]], .rows 1 (p.s.byt.map rb), .dead, .rows 3 [[.view false 1 (p.s.perm.map r1), .sl 2 0 p.s.byt.length none, .sl 3 0 p.l.length none]],
      .rows 5 [[iv (stand p.s a).x.op, iv (stand p.s a).x.a, iv (stand p.s a).x.b, iv (stand p.s a).x.imm, iv (stand p.s a).n]], .dead, .rows 3 ((insL a ⟨a, d, 1⟩ p.l).map rp)] (by simp) rfl (by simp) ?_ rfl rfl ?_) ?_
    · simp only [List.map_cons, List.map_nil, bren_rp, List.getElem?_cons_succ, List.getElem?_cons_zero]
      rfl
    · simp only [patch, setMany, List.length_cons, List.length_nil, List.drop_succ_cons, List.drop_zero, List.map_cons, List.map_nil, bren_rp, hins]
      rfl
    obtain ⟨z, hz⟩ := at_lt (l := p.s.byt.map rb) (i := a.toNat) (by simpa using g3)
    have eset : (p.s.byt.map rb).set a.toNat [.int .u8 204] = (p.s.put a.toNat 204).byt.map rb := by rw [Sp.put, List.map_set]; rfl
    simp only [go_sem,g2,g3,hd,List.length_map,List.getElem?_map,eset]
    refine up_pd (q := ⟨p.s.put a.toNat 204, insL a ⟨a, d, 1⟩ p.l⟩) 2 7 p.s.byt.length (p.l.length + 1) _ _ (by decide) rfl rfl (List.take_of_length_le (by simp [Sp.put])) (List.take_of_length_le (by simp [ins_len])) (by simp [Sp.put]) (by simp [ins_len]) (rb_lt0 _) (rp_lt0 _) ?_
    rw [← hpost]
    exact ⟨rfl, rfl⟩
theorem install_no (p : Pd) (h : p.ok) (a : Int) (h0 : (p.inst a).2 ≠ 0) : ACalls Tryz.prog 55 [p.av, iv a] [] (fun o H => o = .pan (rfd (p.inst a).2) ∧ H = []) := by
  refine ACalls.up ?_
  refine ACalls.intro (cs := []) (n := 76) Tryz.func55 rfl rfl rfl (by kernel_rfl) rfl ?_
  generalize hpost : (fun (o : Out) (H : Heap) => o = Out.pan (rfd (p.inst a).2) ∧ H = []) = post
  have fin : ∀ n H, n = (p.inst a).2 → Up 0 post (.pan (rfd n)) H := fun n H h => finp rfl (by rw [← hpost, ← h]; exact ⟨rfl, rfl⟩) H
  have hl := h.len
  simp only [go_sem,Pd.av]
  refine rK_use (enters_of Tryz.func25 rfl (by decide)) (ACalls.pure_use (pcheck_c p) rfl rfl) ?_
  rw [Pd.chk_ok h]
  simp only [go_sem]
  refine rK_use (enters_of Tryz.func57 rfl (by decide)) (ACalls.pure_use (pmust_ok) rfl rfl) ?_
  simp only [go_sem]
  refine rK_use (enters_of Tryz.func58 rfl (by decide)) (pcopied_u p h.fit _) ?_
  simp only [go_sem]
  refine rK_use (enters_of Tryz.func48 rfl (by decide)) (find_l h.sor (by omega) a 3 rfl) ?_
  rw [fnd_cur]
  unfold Pd.inst at h0 fin
  cases hc : p.cur a with
  | some y =>
    rw [hc] at h0 fin
    simp only at h0 fin
    have hlb := cur_lt hc
    obtain ⟨hy, hya⟩ := Pd.cur_at hc
    have g1 : (0 : Int) ≤ (lb a p.l : Int) ∧ (lb a p.l : Int) < (p.l.length : Int) := ⟨by omega, by omega⟩
    by_cases hn : y.n = 1000
    rotate_left
    · rw [if_neg hn] at h0; exact absurd rfl h0
    rw [if_pos hn] at fin
    simp only [go_sem,Option.isSome_some,g1,hy,List.length_map,List.getElem?_map,eq_true hn,hlb]
    refine rK_pans (enters_of Tryz.func57 rfl (by decide)) (ACalls.pure_pan (pmust_no 2 (by decide)) rfl rfl) ?_
    simp only [go_sem]
    exact fin 2 _ rfl
  | none =>
    rw [hc] at h0 fin
    simp only at h0 fin
    simp only [go_sem,Option.isSome_none]
    refine rK_use (enters_of Tryz.func49 rfl (by decide)) (ACalls.pure_use (standing_c p.s h.sok a) rfl (by simp [sitC, Ins.cells, AV.lt, ltL])) ?_
    by_cases hst : (stand p.s a).e = 0
    · rw [if_pos hst] at h0 fin
      by_cases hn : p.l.length = 64
      rotate_left
      · rw [if_neg hn] at h0; exact absurd rfl h0
      rw [if_pos hn] at fin
      have hn' : (p.l.length : Int) = 64 := by omega
      simp only [go_sem,decide_eq_true hst,sitC,Ins.cells,eq_true hn']
      refine rK_pans (enters_of Tryz.func57 rfl (by decide)) (ACalls.pure_pan (pmust_no 2 (by decide)) rfl rfl) ?_
      simp only [go_sem]
      exact fin 2 _ rfl
    · rw [if_neg hst] at fin
      simp only [go_sem,decide_eq_false hst,sitC,Ins.cells]
      refine rK_pans (enters_of Tryz.func57 rfl (by decide)) (ACalls.pure_pan (pmust_no 71 (by decide)) rfl rfl) ?_
      simp only [go_sem]
      exact fin 71 _ rfl
theorem install_n (p : Pd) (h : ¬ p.ok) (a : Int) : ACalls Tryz.prog 55 [p.av, iv a] [] (fun o H => o = .pan (rfd 70) ∧ H = []) := by
  refine ACalls.up ?_
  refine ACalls.intro (cs := []) (n := 76) Tryz.func55 rfl rfl rfl (by kernel_rfl) rfl ?_
  simp only [go_sem,Pd.av]
  refine rK_use (enters_of Tryz.func25 rfl (by decide)) (ACalls.pure_use (pcheck_c p) rfl rfl) ?_
  rw [Pd.chk_no h]
  simp only [go_sem]
  refine rK_pans (enters_of Tryz.func57 rfl (by decide)) (ACalls.pure_pan (pmust_no 70 (by decide)) rfl rfl) ?_
  simp only [go_sem]
  exact finp rfl ⟨rfl, rfl⟩ _
open Classical in
noncomputable def Pd.instA (p : Pd) (a : Int) : Pd × Int := if p.ok then p.inst a else (p0, 70)
theorem install_pan (p : Pd) (a : Int) (h0 : (p.instA a).2 ≠ 0) : ACalls Tryz.prog 55 [p.av, iv a] [] (fun o H => o = .pan (rfd (p.instA a).2) ∧ H = []) := by
  unfold Pd.instA at h0 ⊢
  by_cases h : p.ok
  · rw [if_pos h] at h0 ⊢
    exact install_no p h a h0
  · rw [if_neg h]
    exact install_n p h a
def Pd.cells (p : Pd) : List AV := [.view false 1 (p.s.perm.map r1), .view false 1 (p.s.byt.map rb), .view false 3 (p.l.map rp)]
def pdN : List AV := [.view true 0 [], .view true 0 [], .view true 0 []]
theorem pdN_le : LeV (.agg pdN) p0.av := .agg (.cons (.nil true false 0 1 (by simp)) (.cons (.nil true false 0 1 (by simp)) (.cons (.nil true false 0 3 (by simp)) .nil)))
theorem inst_p0 (p : Pd) (a : Int) (h0 : (p.instA a).2 ≠ 0) : (p.instA a).1 = p0 := by
  unfold Pd.instA Pd.inst at h0 ⊢
  repeat' split
  all_goals first | rfl | skip
  all_goals simp_all
theorem Install_c (p : Pd) (a : Int) (ha : I64 a) : ACalls Tryz.prog 18 [p.av, iv a] [] (fun o H => o = .ret (.tuple [(p.instA a).1.av, iv (p.instA a).2]) ∧ H = []) := by
  refine ACalls.up ?_
  refine ACalls.intro (cs := []) (n := 14) Tryz.func18 rfl rfl rfl (by kernel_rfl) rfl ?_
  generalize hpost : (fun (o : Out) (H : Heap) => o = Out.ret (.tuple [(p.instA a).1.av, iv (p.instA a).2]) ∧ H = []) = post
  simp only [go_sem,Pd.av]
  by_cases h0 : (p.instA a).2 = 0
  · have hp : p.ok := Classical.byContradiction fun h => by rw [Pd.instA, if_neg h] at h0; cases h0
    have hcl : ACalls Tryz.prog 54 [.ptr 0 0 0, .ptr 1 0 0, .ptr 2 0 0] [.rows 3 [p.cells], .rows 1 [[iv a]], .rows 3 [pdN]] (fun o H => o = .ret (.tuple []) ∧ H = [.rows 3 [p.cells], .rows 1 [[iv a]], .rows 3 [(p.instA a).1.cells]]) := by
      refine ACalls.up ?_
      refine ACalls.intro (cs := []) (n := 6) Tryz.func54 rfl rfl rfl (by kernel_rfl) rfl ?_
      simp only [go_sem,Pd.cells,pdN]
      have e : p.instA a = p.inst a := if_pos hp
      rw [e] at h0 ⊢
      refine rK_use (enters_of Tryz.func55 rfl (by decide)) (ACalls.pure_use (install_ok p hp a ha h0) rfl rfl) ?_
      simp only [go_sem,Pd.av]
      exact .done ⟨rfl, rfl⟩
    refine rK_use (enters_of Tryz.func40 rfl (by decide)) (caught_ret (enters_of Tryz.func54 rfl (by decide)) hcl rfl (by simp [Blk.lt, ltL, AV.lt, Pd.cells, pdN]) (by simp [Blk.lt, ltL, AV.lt, Pd.cells]) rfl) ?_
    simp only [go_sem,Pd.cells]
    refine finv rfl ?_ _
    rw [← hpost, h0]
    exact ⟨rfl, rfl⟩
  · have hcl : ACalls Tryz.prog 54 [.ptr 0 0 0, .ptr 1 0 0, .ptr 2 0 0] [.rows 3 [p.cells], .rows 1 [[iv a]], .rows 3 [pdN]] (fun o H => o = .pan (rfd (p.instA a).2) ∧ H = [.rows 3 [p.cells], .rows 1 [[iv a]], .rows 3 [pdN]]) := by
      refine ACalls.up ?_
      refine ACalls.intro (cs := []) (n := 6) Tryz.func54 rfl rfl rfl (by kernel_rfl) rfl ?_
      simp only [go_sem,Pd.cells,pdN]
      refine rK_pans (enters_of Tryz.func55 rfl (by decide)) (ACalls.pure_pan (install_pan p a h0) rfl rfl) ?_
      simp only [go_sem]
      exact .done ⟨rfl, rfl⟩
    refine rK_use (enters_of Tryz.func40 rfl (by decide)) (caught_pan (p.instA a).2 (enters_of Tryz.func54 rfl (by decide)) hcl rfl (by simp [Blk.lt, ltL, AV.lt, Pd.cells, pdN]) (by simp [Blk.lt, ltL, AV.lt, Pd.cells, pdN]) rfl) ?_
    simp only [go_sem,Pd.cells,pdN,eq_false h0]
    refine .le (.ret (.tuple (.cons pdN_le (.cons (.refl _) .nil)))) (LeH.refl _) (finv rfl ?_ _)
    rw [← hpost, inst_p0 p a h0]
    exact ⟨rfl, rfl⟩
end Go.Proofs.YtfiflailjbmlpaaGreatDoor
set_option maxRecDepth 100000
set_option linter.unusedVariables false
set_option linter.unusedSimpArgs false
namespace Go.Proofs.YtfiflailjbmlpaaGreatDoor
open Go.AM
theorem up_cell {post : CQ} {p q : Pd} {a : Int} (nb nl : Nat) (xs ys : List (List AV)) (hx : xs.take nb = q.s.byt.map rb) (hy : ys.take nl = q.l.map rp) (hxl : nb ≤ xs.length) (hyl : nl ≤ ys.length)
    (hp : ∀ row ∈ xs, ltL 0 row = true) (hp2 : ∀ row ∈ ys, ltL 0 row = true) (h : post (.ret (.tuple [])) [.rows 3 [p.cells], .rows 1 [[iv a]], .rows 3 [q.cells]]) :
    Up 3 post (.ret (.tuple [])) [.rows 3 [p.cells], .rows 1 [[iv a]], .rows 3 [[.view false 1 (q.s.perm.map r1), .sl 3 0 nb none, .sl 4 0 nl none]], .rows 1 xs, .rows 3 ys] := by
  refine .fz 3 1 xs rfl (fun row hr x hx => ltL_mem (hp row hr) x hx) trivial ?_ ?_
  · simp only [List.set_cons_zero, List.set_cons_succ, List.forall_mem_cons]
    refine ⟨by simp [Blk.fzOk, fzOkL, AV.fzOk, Pd.cells], by simp [Blk.fzOk, fzOkL, AV.fzOk], by simp [Blk.fzOk, fzOkL, AV.fzOk, hxl], trivial, bfzOk_pure hp2, by simp⟩
  simp only [List.set_cons_zero, List.set_cons_succ, List.map_cons, List.map_nil, bfz_pure hp2]
  refine .fz 4 3 ys rfl (fun row hr x hx => ltL_mem (hp2 row hr) x hx) trivial ?_ ?_
  · simp only [List.set_cons_zero, List.set_cons_succ, List.forall_mem_cons]
    refine ⟨by simp [Blk.fz, fzL, AV.fz, Blk.fzOk, fzOkL, AV.fzOk, Pd.cells], by simp [Blk.fz, fzL, AV.fz, Blk.fzOk, fzOkL, AV.fzOk], by simp [Blk.fz, fzL, AV.fz, Blk.fzOk, fzOkL, AV.fzOk, hyl], trivial, trivial, by simp⟩
  simp only [Pd.cells, List.set_cons_zero, List.set_cons_succ, List.map_cons, List.map_nil, Blk.fz, fzL, AV.fz, Out.fz, if_true, if_false, Nat.reduceEqDiff, reduceIte, List.drop_zero, hx, hy]
  refine .gc 3 (Nat.le_refl _) (by simp) rfl (by simp [Blk.lt, ltL, AV.lt, Pd.cells]) (.done ?_)
  exact h
theorem remove1_ok (p : Pd) (h : p.ok) (a : Int) (h0 : (p.rem a).2 = 0) : ACalls Tryz.prog 56 [.ptr 0 0 0, .ptr 1 0 0, .ptr 2 0 0] [.rows 3 [p.cells], .rows 1 [[iv a]], .rows 3 [pdN]] (fun o H => o = .ret (.tuple []) ∧ H = [.rows 3 [p.cells], .rows 1 [[iv a]], .rows 3 [(p.rem a).1.cells]]) := by
  refine ACalls.up ?_
  refine ACalls.intro (cs := []) (n := 54) Tryz.func56 rfl rfl rfl (by kernel_rfl) rfl ?_
  generalize hpost : (fun (o : Out) (H : Heap) => o = Out.ret (.tuple []) ∧ H = [.rows 3 [p.cells], .rows 1 [[iv a]], .rows 3 [(p.rem a).1.cells]]) = post
  have hl := h.len
  have hbl := byt_len h.sok
  simp only [go_sem,Pd.cells,pdN]
  refine rK_use (enters_of Tryz.func25 rfl (by decide)) (ACalls.pure_use (pcheck_c p) rfl rfl) ?_
  rw [Pd.chk_ok h]
  simp only [go_sem]
  refine rK_use (enters_of Tryz.func57 rfl (by decide)) (ACalls.pure_use (pmust_ok) rfl rfl) ?_
  simp only [go_sem]
  refine rK_use (enters_of Tryz.func48 rfl (by decide)) (ACalls.pure_use (find_c p.l h.sor (by omega) a) rfl rfl) ?_
  rw [fnd_cur]
  unfold Pd.rem at h0 hpost
  cases hc : p.cur a with
  | none => rw [hc] at h0; cases h0
  | some y =>
    rw [hc] at h0 hpost
    simp only at h0 hpost
    have hlb := cur_lt hc
    obtain ⟨hy, hya⟩ := Pd.cur_at hc
    have hf := h.fits y (List.mem_of_getElem? hy)
    have hn1 := hf.n1
    have hn2 := hf.n2
    have g1 : (0 : Int) ≤ (lb a p.l : Int) ∧ (lb a p.l : Int) < (p.l.length : Int) := ⟨by omega, by omega⟩
    have e1 : iw .i64 (y.n - 1) = y.n - 1 := by rw [iw64] <;> omega
    simp only [go_sem,Option.isSome_some]
    refine rK_use (enters_of Tryz.func58 rfl (by decide)) (pcopied_u p h.fit _) ?_
    have hset : (p.l.map rp).set (lb a p.l) [iv y.at_, bv y.old, iv (y.n - 1)] = (p.l.set (lb a p.l) ⟨y.at_, y.old, y.n - 1⟩).map rp := set_rp _ _ ⟨y.at_, y.old, y.n - 1⟩
    have hs1 : (p.l.set (lb a p.l) ⟨y.at_, y.old, y.n - 1⟩)[lb a p.l]? = some ⟨y.at_, y.old, y.n - 1⟩ := List.getElem?_set_self hlb
    simp only [go_sem,g1,hy,List.length_map,List.getElem?_map,e1,hlb,hset,hs1,List.length_set]
    by_cases hn : y.n = 1
    · rw [if_pos hn] at hpost
      have hz : y.n - 1 = 0 := by omega
      have e2 : iw .i64 ((lb a p.l : Int) + 1) = ((lb a p.l + 1 : Nat) : Int) := by rw [iw64] <;> omega
      have g2 : (0 : Int) ≤ a ∧ a < (p.s.byt.length : Int) := by rw [← hya]; exact ⟨hf.a0, hf.a1⟩
      have g3 : a.toNat < p.s.byt.length := by omega
      obtain ⟨z, hzz⟩ := at_lt (l := p.s.byt) (i := a.toNat) g3
      have eset : (p.s.byt.map rb).set a.toNat [.int .u8 (y.old.toNat : Int)] = (p.s.put a.toNat y.old).byt.map rb := by rw [Sp.put, List.map_set]
      simp only [go_sem,eq_true hz]
      refine draw [.qu 0 0, .qu 0 0, .qu 0 0, .qu 0 0, .qu 0 0, .qu 0 0, .qu 0 0, .qu 0 0, .qu 0 0, .qu 0 0, .qu 0 0, .mn 0] (by kernel_rfl) (by kernel_rfl) ?_
      simp only [go_sem,g1,g2,g3,hs1,hzz,List.length_map,List.getElem?_map,List.length_set,eset,e2]
      have hdel := delete_c (p.l.set (lb a p.l) ⟨y.at_, y.old, y.n - 1⟩) (lb a p.l) (by rw [List.length_set]; exact hlb) (by rw [List.length_set]; omega)
      rw [List.length_set, List.eraseIdx_set_eq] at hdel
      refine rK_use (enters_of Tryz.func59 rfl (by decide)) (hdel.useE [4] (.sl 4 0 (p.l.length - 1) none) [.rows 3 [p.cells], .rows 1 [[iv a]], .rows 3 [[.view false 1 (p.s.perm.map r1), .sl 3 0 p.s.byt.length none, .sl 4 0 p.l.length none]], .rows 1 ((p.s.put a.toNat y.old).byt.map rb), .rows 3 ((p.l.eraseIdx (lb a p.l)).map rp ++ [rz])] (by simp) rfl (by simp) ?_ rfl rfl ?_) ?_
      · simp only [List.map_cons, List.map_nil, bren_rp, List.getElem?_cons_succ, List.getElem?_cons_zero]
      · have : Blk.ren (pi [4] 5) (.rows 3 ((p.l.eraseIdx (lb a p.l)).map rp ++ [rz])) = .rows 3 ((p.l.eraseIdx (lb a p.l)).map rp ++ [rz]) := bren_lt (m := 0) (fun k hk => absurd hk (Nat.not_lt_zero _)) (fun row hr => by
          rcases List.mem_append.1 hr with hr | hr
          · exact rp_lt0 _ row hr
          · rw [List.mem_singleton] at hr; subst hr; rfl)
        simp only [patch, setMany, List.length_cons, List.length_nil, List.drop_succ_cons, List.drop_zero, List.map_cons, List.map_nil, Nat.zero_add, Nat.reduceAdd, this]
        rfl
      have hle : (p.l.eraseIdx (lb a p.l)).length = p.l.length - 1 := by rw [List.length_eraseIdx, if_pos hlb]
      simp only [go_sem,Pd.cells]
      refine up_cell (q := ⟨p.s.put a.toNat y.old, p.l.eraseIdx (lb a p.l)⟩) p.s.byt.length (p.l.length - 1) _ _ (List.take_of_length_le (by simp [Sp.put])) ?_ (by simp [Sp.put]) (by simp [hle]) (rb_lt0 _) ?_ ?_
      · rw [List.take_append_of_le_length (by simp [hle]), List.take_of_length_le (by simp [hle])]
      · intro row hr
        rcases List.mem_append.1 hr with hr | hr
        · exact rp_lt0 _ row hr
        · rw [List.mem_singleton] at hr; subst hr; rfl
      · rw [← hpost]
        exact ⟨rfl, rfl⟩
    · rw [if_neg hn] at hpost
      have hz : ¬ y.n - 1 = 0 := by omega
      simp only [go_sem,eq_false hz]
      refine up_cell (q := ⟨p.s, p.l.set (lb a p.l) ⟨y.at_, y.old, y.n - 1⟩⟩) p.s.byt.length p.l.length _ _ (List.take_of_length_le (by simp)) (List.take_of_length_le (by simp)) (by simp) (by simp) (rb_lt0 _) (rp_lt0 _) ?_
      rw [← hpost]
      exact ⟨rfl, rfl⟩
noncomputable def Pd.remA (p : Pd) (a : Int) : Pd × Int := if p.chk = 0 then p.rem a else (p0, 70)
theorem remA_ok {p : Pd} (h : p.ok) (a : Int) : p.remA a = p.rem a := if_pos (Pd.chk_ok h)
theorem remA_no {p : Pd} (h : ¬ p.ok) (a : Int) : p.remA a = (p0, 70) := if_neg (by rw [Pd.chk_no h]; decide)
theorem rem_p0 (p : Pd) (a : Int) (h0 : (p.remA a).2 ≠ 0) : (p.remA a).1 = p0 := by
  by_cases h : p.ok
  · rw [remA_ok h] at h0 ⊢
    unfold Pd.rem at h0 ⊢
    cases hc : p.cur a with
    | none => rfl
    | some y =>
      rw [hc] at h0
      simp only at h0 ⊢
      split at h0 <;> exact absurd rfl h0
  · rw [remA_no h]
theorem remove1_pan (p : Pd) (a : Int) (h0 : (p.remA a).2 ≠ 0) : ACalls Tryz.prog 56 [.ptr 0 0 0, .ptr 1 0 0, .ptr 2 0 0] [.rows 3 [p.cells], .rows 1 [[iv a]], .rows 3 [pdN]] (fun o H => o = .pan (rfd (p.remA a).2) ∧ H = [.rows 3 [p.cells], .rows 1 [[iv a]], .rows 3 [pdN]]) := by
  refine ACalls.up ?_
  refine ACalls.intro (cs := []) (n := 54) Tryz.func56 rfl rfl rfl (by kernel_rfl) rfl ?_
  generalize hpost : (fun (o : Out) (H : Heap) => o = Out.pan (rfd (p.remA a).2) ∧ H = [.rows 3 [p.cells], .rows 1 [[iv a]], .rows 3 [pdN]]) = post
  have fin : ∀ n, n = (p.remA a).2 → Up 3 post (.pan (rfd n)) [.rows 3 [p.cells], .rows 1 [[iv a]], .rows 3 [pdN]] := fun n h => .done (by rw [← hpost, ← h]; exact ⟨rfl, rfl⟩)
  simp only [go_sem,Pd.cells,pdN]
  refine rK_use (enters_of Tryz.func25 rfl (by decide)) (ACalls.pure_use (pcheck_c p) rfl rfl) ?_
  by_cases h : p.ok
  rotate_left
  · rw [Pd.chk_no h]
    simp only [go_sem]
    refine rK_pans (enters_of Tryz.func57 rfl (by decide)) (ACalls.pure_pan (pmust_no 70 (by decide)) rfl rfl) ?_
    simp only [go_sem]
    exact fin 70 (by rw [remA_no h])
  have hl := h.len
  rw [Pd.chk_ok h]
  simp only [go_sem]
  refine rK_use (enters_of Tryz.func57 rfl (by decide)) (ACalls.pure_use (pmust_ok) rfl rfl) ?_
  simp only [go_sem]
  refine rK_use (enters_of Tryz.func48 rfl (by decide)) (ACalls.pure_use (find_c p.l h.sor (by omega) a) rfl rfl) ?_
  rw [fnd_cur]
  rw [remA_ok h] at h0 fin
  unfold Pd.rem at h0 fin
  cases hc : p.cur a with
  | none =>
    rw [hc] at fin
    simp only [go_sem,Option.isSome_none]
    refine rK_pans (enters_of Tryz.func57 rfl (by decide)) (ACalls.pure_pan (pmust_no 3 (by decide)) rfl rfl) ?_
    simp only [go_sem]
    exact fin 3 rfl
  | some y =>
    rw [hc] at h0
    simp only at h0
    split at h0 <;> exact absurd rfl h0
theorem Remove_c (p : Pd) (a : Int) : ACalls Tryz.prog 19 [p.av, iv a] [] (fun o H => o = .ret (.tuple [(p.remA a).1.av, iv (p.remA a).2]) ∧ H = []) := by
  refine ACalls.up ?_
  refine ACalls.intro (cs := []) (n := 13) Tryz.func19 rfl rfl rfl (by kernel_rfl) rfl ?_
  generalize hpost : (fun (o : Out) (H : Heap) => o = Out.ret (.tuple [(p.remA a).1.av, iv (p.remA a).2]) ∧ H = []) = post
  simp only [go_sem,Pd.av]
  by_cases h0 : (p.remA a).2 = 0
  · have hp : p.ok := Classical.byContradiction fun h => by rw [remA_no h] at h0; cases h0
    have e := remA_ok hp a
    have hcl := remove1_ok p hp a (by rw [← e]; exact h0)
    rw [← e] at hcl
    refine rK_use (enters_of Tryz.func40 rfl (by decide)) (caught_ret (enters_of Tryz.func56 rfl (by decide)) hcl rfl (by simp [Blk.lt, ltL, AV.lt, Pd.cells, pdN]) (by simp [Blk.lt, ltL, AV.lt, Pd.cells]) rfl) ?_
    simp only [go_sem,Pd.cells]
    refine finv rfl ?_ _
    rw [← hpost, h0]
    exact ⟨rfl, rfl⟩
  · refine rK_use (enters_of Tryz.func40 rfl (by decide)) (caught_pan (p.remA a).2 (enters_of Tryz.func56 rfl (by decide)) (remove1_pan p a h0) rfl (by simp [Blk.lt, ltL, AV.lt, Pd.cells, pdN]) (by simp [Blk.lt, ltL, AV.lt, Pd.cells, pdN]) rfl) ?_
    simp only [go_sem,Pd.cells,pdN,eq_false h0]
    refine .le (.ret (.tuple (.cons pdN_le (.cons (.refl _) .nil)))) (LeH.refl _) (finv rfl ?_ _)
    rw [← hpost, rem_p0 p a h0]
    exact ⟨rfl, rfl⟩
end Go.Proofs.YtfiflailjbmlpaaGreatDoor
set_option maxRecDepth 100000
set_option linter.unusedVariables false
set_option linter.unusedSimpArgs false
namespace Go.Proofs.YtfiflailjbmlpaaGreatDoor
open Go.AM
theorem has_cur {p : Pd} (hs : Srt p.l) (a : Int) : p.has a = (p.cur a).isSome := by
  cases hc : p.cur a with
  | none => exact (Pd.cur_none hs).1 hc
  | some y =>
    have := (Pd.cur_some hs).1 hc
    exact Pd.has_true.2 ⟨y, this.1, this.2⟩
theorem pstep_c (p : Pd) (h : p.ok) (r : Rg) (hr : r.wf) (slot : Int) (hs : I64 slot) : ACalls Tryz.prog 42 [p.av, r.av, iv slot] [] (fun o H => o = .ret (.tuple [(p.stepE r slot).1.av, iv (p.stepE r slot).2]) ∧ H = []) := by
  refine ACalls.up ?_
  refine ACalls.intro (cs := []) (n := 131) Tryz.func42 rfl rfl rfl (by kernel_rfl) rfl ?_
  generalize hpost : (fun (o : Out) (H : Heap) => o = Out.ret (.tuple [(p.stepE r slot).1.av, iv (p.stepE r slot).2]) ∧ H = []) = post
  have fin : ∀ (e : Eff) n H, (e, n) = p.stepE r slot → Up 0 post (.ret (.tuple [.agg e.cells, iv n])) H := fun e n H h => finv (by simp [AV.lt, ltL, Eff.cells, Eff.cellsD]) (by rw [← hpost, ← h]; exact ⟨rfl, rfl⟩) H
  have hl := h.len
  simp only [go_sem,Pd.av,Rg.av,Rg.cells]
  refine rK_use (enters_of Tryz.func25 rfl (by decide)) (ACalls.pure_use (pcheck_c p) rfl rfl) ?_
  rw [Pd.chk_ok h]
  simp only [go_sem]
  refine rK_use (enters_of Tryz.func57 rfl (by decide)) (ACalls.pure_use (pmust_ok) rfl rfl) ?_
  simp only [go_sem]
  refine rK_use (enters_of Tryz.func48 rfl (by decide)) (ACalls.pure_use (find_c p.l h.sor (by omega) r.pc) rfl rfl) ?_
  rw [fnd_cur]
  cases hc : p.cur r.pc with
  | none =>
    simp only [go_sem,Option.isSome_none]
    refine rK_use (enters_of Tryz.func35 rfl (by decide)) (ACalls.pure_use (Step_c p.s h.sok r hr) rfl rfl) ?_
    simp only [go_sem,Eff.av,Eff.cells,Eff.cellsD]
    refine rK_use (enters_of Tryz.func57 rfl (by decide)) (ACalls.pure_use (pmust_ok) rfl rfl) ?_
    simp only [go_sem]
    exact fin (step p.s r) 0 _ (by rw [Pd.stepE, has_cur h.sor, hc, Option.isSome_none, if_neg (by decide)])
  | some y =>
    have hmem := (Pd.cur_some h.sor).1 hc
    have hst : (stand p.clean r.pc).e = 0 := by rw [← hmem.2]; exact h.std y hmem.1
    have hxo : (stand p.clean r.pc).x.ok := dec_ok hst
    simp only [go_sem,Option.isSome_some]
    have hfi : p.stepE r slot = (if (dispE (stand p.clean r.pc).x r.pc slot).2 = 3 then (exec (stand p.clean r.pc).x p.s r, 3)
        else (fixE (stand p.clean r.pc).x (stand p.clean r.pc).n r.pc slot (exec (dispE (stand p.clean r.pc).x r.pc slot).1 p.s (r.at' slot)), (dispE (stand p.clean r.pc).x r.pc slot).2)) := by
      rw [Pd.stepE, has_cur h.sor, hc, Option.isSome_some, if_pos rfl]
    have hdo := disp_ok hxo r.pc slot
    refine draw [.rd 0 1, .qu 0 1, .qu 0 1, .rd 0 1, .qu 0 1, .qu 0 1, .qu 0 1, .qu 0 2, .mn 0, .mn 1, .qu 2 2] (by kernel_rfl) (by kernel_rfl) ?_
    simp only [go_sem]
    refine y_call (enters_of Tryz.func50 rfl (by decide)) (fun _ => ACalls.pure_use (clean_c p h.fit h.bounds) rfl rfl) ?_
    simp only [go_sem,Sp.av]
    refine y_call (enters_of Tryz.func49 rfl (by decide)) (fun _ => ACalls.pure_use (standing_c p.clean h.cok r.pc) rfl (by simp [sitC, Ins.cells, AV.lt, ltL])) ?_
    simp only [go_sem,sitC,Ins.cells]
    generalize stand p.clean r.pc = D at *
    refine rK_use (enters_of Tryz.func52 rfl (by decide)) (ACalls.pure_use (displaced_c D.x r.pc slot) rfl rfl) ?_
    generalize dispE D.x r.pc slot = E at *
    simp only [go_sem,Ins.av,Ins.cells]
    rcases Decidable.em (E.2 = 3) with h3 | h3
    · simp only [go_sem,eq_true h3]
      refine rK_use (enters_of Tryz.func80 rfl (by decide)) (ACalls.pure_use (Exec_c D.x hxo p.s h.sok r hr) rfl rfl) ?_
      simp only [go_sem,Eff.av,Eff.cells,Eff.cellsD]
      refine rK_use (enters_of Tryz.func57 rfl (by decide)) (ACalls.pure_use (pmust_ok) rfl rfl) ?_
      simp only [go_sem]
      exact fin (exec D.x p.s r) E.2 _ (by rw [hfi, if_pos h3, h3])
    · rw [if_neg h3] at hfi
      simp only [go_sem,eq_false h3]
      refine rK_use (enters_of Tryz.func80 rfl (by decide)) (ACalls.pure_use (Exec_c E.1 hdo p.s h.sok (r.at' slot) ⟨hr.reg, hs⟩) rfl rfl) ?_
      generalize exec E.1 p.s (r.at' slot) = F at *
      simp only [go_sem,Eff.av,Eff.cells,Eff.cellsD]
      refine rK_use (enters_of Tryz.func57 rfl (by decide)) (ACalls.pure_use (pmust_ok) rfl rfl) ?_
      simp only [go_sem]
      refine condD_dec (fun hk => ?_) (fun hk => ?_)
      · simp only [go_sem]
        have e : fixE D.x D.n r.pc slot F = ⟨F.rg.at' r.pc, F.pos, F.data, F.trap, D.x⟩ := by rw [fixE, if_pos hk]
        rw [e] at hfi
        exact fin ⟨F.rg.at' r.pc, F.pos, F.data, F.trap, D.x⟩ E.2 _ hfi.symm
      · have same : ¬ ((D.x.op ≠ 26 ∧ D.x.op ≠ 29) ∧ F.rg.pc = iw .i64 (slot + D.n)) → (⟨F.rg, F.pos, F.data, F.trap, D.x⟩, E.2) = p.stepE r slot := fun hn => by
          rw [hfi, fixE, if_neg hk, if_neg hn]
          rfl
        rcases Decidable.em (D.x.op = 26) with q1 | q1
        · simp only [go_sem,eq_true q1]
          exact fin ⟨F.rg, F.pos, F.data, F.trap, D.x⟩ E.2 _ (same fun h => h.1.1 q1)
        rcases Decidable.em (D.x.op = 29) with q2 | q2
        · simp only [go_sem,eq_false q1,eq_true q2]
          exact fin ⟨F.rg, F.pos, F.data, F.trap, D.x⟩ E.2 _ (same fun h => h.1.2 q2)
        rcases Decidable.em (F.rg.pc = iw .i64 (slot + D.n)) with q3 | q3
        · simp only [go_sem,eq_false q1,eq_false q2,eq_true q3]
          exact fin ⟨F.rg.at' (iw .i64 (r.pc + D.n)), F.pos, F.data, F.trap, D.x⟩ E.2 _ (by rw [hfi, fixE, if_neg hk, if_pos ⟨⟨q1, q2⟩, q3⟩])
        · simp only [go_sem,eq_false q1,eq_false q2,eq_false q3]
          exact fin ⟨F.rg, F.pos, F.data, F.trap, D.x⟩ E.2 _ (same fun h => q3 h.2)
theorem pstep_n (p : Pd) (h : ¬ p.ok) (r : Rg) (slot : Int) : ACalls Tryz.prog 42 [p.av, r.av, iv slot] [] (fun o H => o = .pan (rfd 70) ∧ H = []) := by
  refine ACalls.up ?_
  refine ACalls.intro (cs := []) (n := 131) Tryz.func42 rfl rfl rfl (by kernel_rfl) rfl ?_
  simp only [go_sem,Pd.av,Rg.av,Rg.cells]
  refine rK_use (enters_of Tryz.func25 rfl (by decide)) (ACalls.pure_use (pcheck_c p) rfl rfl) ?_
  rw [Pd.chk_no h]
  simp only [go_sem]
  refine rK_pans (enters_of Tryz.func57 rfl (by decide)) (ACalls.pure_pan (pmust_no 70 (by decide)) rfl rfl) ?_
  simp only [go_sem]
  exact finp rfl ⟨rfl, rfl⟩ _
theorem PStep_c (p : Pd) (h : p.ok) (r : Rg) (hr : r.wf) (slot : Int) (hs : I64 slot) : ACalls Tryz.prog 11 [p.av, r.av, iv slot] [] (fun o H => o = .ret (.tuple [(p.stepE r slot).1.av, iv (p.stepE r slot).2, iv 0]) ∧ H = []) := by
  refine ACalls.up ?_
  refine ACalls.intro (cs := []) (n := 17) Tryz.func11 rfl rfl rfl (by kernel_rfl) rfl ?_
  generalize hpost : (fun (o : Out) (H : Heap) => o = Out.ret (.tuple [(p.stepE r slot).1.av, iv (p.stepE r slot).2, iv 0]) ∧ H = []) = post
  simp only [go_sem,Pd.av,Rg.av,Rg.cells]
  have hcl : ACalls Tryz.prog 41 [.ptr 0 0 0, .ptr 1 0 0, .ptr 2 0 0, .ptr 3 0 0, .ptr 4 0 0] [.rows 3 [p.cells], .rows 9 [r.cells], .rows 1 [[iv slot]], .rows 19 [eff0.cellsD dnil], .rows 1 [[iv 0]]] (fun o H => o = .ret (.tuple []) ∧ H = [.rows 3 [p.cells], .rows 9 [r.cells], .rows 1 [[iv slot]], .rows 19 [(p.stepE r slot).1.cells], .rows 1 [[iv (p.stepE r slot).2]]]) := by
    refine ACalls.up ?_
    refine ACalls.intro (cs := []) (n := 12) Tryz.func41 rfl rfl rfl (by kernel_rfl) rfl ?_
    simp only [go_sem,Pd.cells,Rg.cells,Eff.cellsD,eff0]
    refine rK_use (enters_of Tryz.func42 rfl (by decide)) (ACalls.pure_use (pstep_c p h r hr slot hs) rfl rfl) ?_
    generalize p.stepE r slot = E at *
    simp only [go_sem,Eff.av,Eff.cells,Eff.cellsD]
    exact .done ⟨rfl, rfl⟩
  refine rK_use (enters_of Tryz.func40 rfl (by decide)) (caught_ret (enters_of Tryz.func41 rfl (by decide)) hcl rfl (by simp [Blk.lt, ltL, AV.lt, Pd.cells, Rg.cells, Eff.cellsD]) (by simp [Blk.lt, ltL, AV.lt, Pd.cells, Rg.cells, Eff.cells, Eff.cellsD]) rfl) ?_
  generalize p.stepE r slot = E at *
  simp only [go_sem,Eff.cells,Eff.cellsD]
  refine draw [.qu 0 0, .rd 0 1, .mn 0, .mn 1, .qu 2 2] (by kernel_rfl) (by kernel_rfl) ?_
  simp only [go_sem]
  refine finv (by simp [AV.lt, ltL]) ?_ _
  rw [← hpost]
  exact ⟨rfl, rfl⟩
theorem PStep_n (p : Pd) (h : ¬ p.ok) (r : Rg) (slot : Int) : ACalls Tryz.prog 11 [p.av, r.av, iv slot] [] (fun o H => o = .ret (.tuple [eff0.av, iv 0, iv 70]) ∧ H = []) := by
  refine ACalls.up ?_
  refine ACalls.intro (cs := []) (n := 17) Tryz.func11 rfl rfl rfl (by kernel_rfl) rfl ?_
  generalize hpost : (fun (o : Out) (H : Heap) => o = Out.ret (.tuple [eff0.av, iv 0, iv 70]) ∧ H = []) = post
  simp only [go_sem,Pd.av,Rg.av,Rg.cells]
  have hcl : ACalls Tryz.prog 41 [.ptr 0 0 0, .ptr 1 0 0, .ptr 2 0 0, .ptr 3 0 0, .ptr 4 0 0] [.rows 3 [p.cells], .rows 9 [r.cells], .rows 1 [[iv slot]], .rows 19 [eff0.cellsD dnil], .rows 1 [[iv 0]]] (fun o H => o = .pan (rfd 70) ∧ H = [.rows 3 [p.cells], .rows 9 [r.cells], .rows 1 [[iv slot]], .rows 19 [eff0.cellsD dnil], .rows 1 [[iv 0]]]) := by
    refine ACalls.up ?_
    refine ACalls.intro (cs := []) (n := 12) Tryz.func41 rfl rfl rfl (by kernel_rfl) rfl ?_
    simp only [go_sem,Pd.cells,Rg.cells,Eff.cellsD,eff0]
    refine rK_pans (enters_of Tryz.func42 rfl (by decide)) (ACalls.pure_pan (pstep_n p h r slot) rfl rfl) ?_
    simp only [go_sem]
    exact .done ⟨rfl, rfl⟩
  refine rK_use (enters_of Tryz.func40 rfl (by decide)) (caught_pan 70 (enters_of Tryz.func41 rfl (by decide)) hcl rfl (by simp [Blk.lt, ltL, AV.lt, Pd.cells, Rg.cells, Eff.cellsD]) (by simp [Blk.lt, ltL, AV.lt, Pd.cells, Rg.cells, Eff.cells, Eff.cellsD]) rfl) ?_
  simp only [go_sem,Eff.cellsD,eff0]
  refine .le (.ret (.tuple (.cons zeroE (.cons (.refl _) (.cons (.refl _) .nil))))) (LeH.refl _) (finv (by simp [AV.lt, ltL, Eff.av, Eff.cells, Eff.cellsD]) ?_ _)
  rw [← hpost]
  exact ⟨rfl, rfl⟩
end Go.Proofs.YtfiflailjbmlpaaGreatDoor
set_option maxRecDepth 100000
set_option linter.unusedVariables false
set_option linter.unusedSimpArgs false
namespace Go.Proofs.YtfiflailjbmlpaaGreatDoor
open Go.AM
def twoP : Pd := ⟨⟨[4, 3], [144, 0, 1, 153, 122, 127, 155, 10, 0] ++ List.replicate 119 0⟩, []⟩
theorem two_c : ACalls Tryz.prog 39 [] [] (fun o H => o = .ret twoP.av ∧ H = []) := by
  refine ACalls.up ?_
  refine ACalls.intro (cs := []) (n := 8) Tryz.func39 rfl rfl rfl (by kernel_rfl) rfl ?_
  generalize hpost : (fun (o : Out) (H : Heap) => o = Out.ret twoP.av ∧ H = []) = post
  simp only [go_sem]
  refine .le (o' := .ret (.agg [.sl 3 0 2 (some 2), .sl 2 0 128 none, .view false 3 []])) (.ret (.agg (.cons (.refl _) (.cons (.refl _) (.cons (.nil true false 0 3 (by simp)) .nil))))) (LeH.refl _) ?_
  refine up_two 3 1 (twoP.s.perm.map r1) 2 1 (twoP.s.byt.map rb) (by decide) rfl rfl (r1_lt0 _) (rb_lt0 _) ?_ ?_ ?_ ?_
  · simp [Out.fzOk, AV.fzOk, fzOkL, twoP]
  · simp [Out.fzOk, Out.fz, AV.fz, fzL, AV.fzOk, fzOkL, twoP]
  · rfl
  · rw [← hpost]
    exact ⟨rfl, rfl⟩
theorem two_ok : twoP.ok := ⟨by decide, by decide, List.Pairwise.nil, (fun x h => by cases h), (fun x h => by cases h)⟩
def p1P : Pd := ⟨twoP.s.put 0 204, [⟨0, 144, 1⟩]⟩
def p2P : Pd := ⟨twoP.s.put 0 204, [⟨0, 144, 2⟩]⟩
theorem I64z : I64 0 := by unfold I64; omega
theorem it1 : twoP.inst 0 = (p1P, 0) := by kernel_rfl
theorem it2 : twoP.inst 1 = (p0, 71) := by kernel_rfl
theorem it3 : p1P.inst 0 = (p2P, 0) := by kernel_rfl
theorem it4 : p2P.rem 0 = (p1P, 0) := by kernel_rfl
theorem it5 : p1P.rem 0 = (twoP, 0) := by kernel_rfl
theorem p1_ok : p1P.ok := by
  obtain ⟨z, h, _⟩ := inst_ok two_ok I64z (by rw [it1])
  rw [it1] at h
  exact h.ok
theorem p2_ok : p2P.ok := by
  obtain ⟨z, h, _⟩ := inst_ok p1_ok I64z (by rw [it3])
  rw [it3] at h
  exact h.ok
theorem instA_ok {p : Pd} (h : p.ok) (a : Int) : p.instA a = p.inst a := if_pos h
def rgP : Rg := ⟨4, 0, 0, 0, 0, 0, 0, 0, 0⟩
theorem sane_c : ACalls Tryz.prog 10 [] [] (fun o H => o = .ret (.bool true) ∧ H = []) := by
  refine ACalls.up ?_
  refine ACalls.intro (cs := []) (n := 178) Tryz.func10 rfl rfl rfl (by kernel_rfl) rfl ?_
  generalize hpost : (fun (o : Out) (H : Heap) => o = Out.ret (.bool true) ∧ H = []) = post
  obtain ⟨E, hE, s1, s2, s3, s4⟩ : ∃ E, p1P.stepE rgP 1000 = E ∧ E.2 = 1 ∧ E.1.rg.r0 = 5 ∧ E.1.rg.pc = 3 ∧ E.1.x.op = 16 := ⟨_, rfl, by kernel_rfl, by kernel_rfl, by kernel_rfl, by kernel_rfl⟩
  have hwf : rgP.wf := wf0 (by decide)
  simp only [go_sem]
  refine rK_use (enters_of Tryz.func39 rfl (by decide)) (ACalls.pure_use (two_c) rfl rfl) ?_
  simp only [go_sem]
  refine rK_use (enters_of Tryz.func18 rfl (by decide)) (ACalls.pure_use (Install_c twoP 0 I64z) rfl rfl) ?_
  rw [instA_ok two_ok, it1]
  simp only [go_sem,Pd.av]
  refine rK_use (enters_of Tryz.func39 rfl (by decide)) (ACalls.pure_use (two_c) rfl rfl) ?_
  simp only [go_sem]
  refine rK_use (enters_of Tryz.func18 rfl (by decide)) (ACalls.pure_use (Install_c twoP 1 (by unfold I64; omega)) rfl rfl) ?_
  rw [instA_ok two_ok, it2]
  have f1 : p1P.l.map rp = [[iv 0, .int .u8 144, iv 1]] := rfl
  have f2 : (p1P.s.byt.map rb).length = 128 := rfl
  have f3 : (p1P.s.byt.map rb)[0]? = some [.int .u8 204] := rfl
  simp only [go_sem,Pd.av,f1,f2,f3,E92]
  refine rK_use (enters_of Tryz.func18 rfl (by decide)) (ACalls.pure_use (Install_c p1P 0 I64z) rfl rfl) ?_
  rw [instA_ok p1_ok, it3]
  simp only [go_sem,Pd.av]
  refine rK_use (enters_of Tryz.func19 rfl (by decide)) (ACalls.pure_use (Remove_c p2P 0) rfl rfl) ?_
  rw [remA_ok p2_ok, it4]
  simp only [go_sem,Pd.av]
  refine rK_use (enters_of Tryz.func19 rfl (by decide)) (ACalls.pure_use (Remove_c p1P 0) rfl rfl) ?_
  rw [remA_ok p1_ok, it5]
  simp only [go_sem,Pd.av]
  have d1 : dispE ⟨25, 0, 0, -6⟩ 3 100 = (⟨25, 0, 0, -103⟩, 2) := by kernel_rfl
  have d2 : dispE ⟨21, 0, 1, 5⟩ 0 5 = (⟨21, 0, 1, 5⟩, 3) := by kernel_rfl
  have d3 : dispE ⟨27, 0, 0, 10⟩ 6 100 = (⟨27, 0, 0, 10⟩, 3) := by kernel_rfl
  refine rK_use (enters_of Tryz.func15 rfl (by decide)) (ACalls.pure_use (Displace_c ⟨25, 0, 0, -6⟩ (by decide) 3 100) rfl rfl) ?_
  rw [d1]
  simp only [go_sem,Ins.av,Ins.cells]
  refine rK_use (enters_of Tryz.func15 rfl (by decide)) (ACalls.pure_use (Displace_c ⟨21, 0, 1, 5⟩ (by decide) 0 5) rfl rfl) ?_
  rw [d2]
  simp only [go_sem,Ins.av,Ins.cells]
  refine rK_use (enters_of Tryz.func15 rfl (by decide)) (ACalls.pure_use (Displace_c ⟨27, 0, 0, 10⟩ (by decide) 6 100) rfl rfl) ?_
  rw [d3]
  have f4 : twoP.l.map rp = [] := rfl
  have f5 : (twoP.s.byt.map rb).length = 128 := rfl
  have f6 : (twoP.s.byt.map rb)[0]? = some [.int .u8 144] := rfl
  simp only [go_sem,Ins.av,Ins.cells,f4,f5,f6]
  refine rK_use (enters_of Tryz.func11 rfl (by decide)) (ACalls.pure_use (PStep_c p1P p1_ok rgP hwf 1000 (by unfold I64; omega)) rfl rfl) ?_
  rw [hE]
  simp only [go_sem,Eff.av,Eff.cells,Eff.cellsD,s1,s2,s3,s4]
  refine finv rfl ?_ _
  rw [← hpost]
  exact ⟨rfl, rfl⟩
end Go.Proofs.YtfiflailjbmlpaaGreatDoor
set_option maxRecDepth 100000
set_option linter.unusedVariables false
set_option linter.unusedSimpArgs false
namespace Go.Proofs.YtfiflailjbmlpaaGreatDoor
open Go.AM
theorem rcopy3_c (s : Sp) (h1 : s.perm.length ≤ 1000000) (h2 : s.byt.length ≤ 1000000) :
    ACalls Tryz.prog 78 [s.av] [] (fun o H => o = .ret (.agg [.sl 0 0 s.perm.length none, .sl 1 0 s.byt.length none]) ∧ H = [.rows 1 (s.perm.map r1), .rows 1 (s.byt.map rb)]) := by
  refine ACalls.up ?_
  refine ACalls.intro (cs := []) (n := 17) Tryz.func78 rfl rfl rfl (by kernel_rfl) rfl ?_
  generalize hpost : (fun (o : Out) (H : Heap) => o = Out.ret (.agg [.sl 0 0 s.perm.length none, .sl 1 0 s.byt.length none]) ∧ H = [.rows 1 (s.perm.map r1), .rows 1 (s.byt.map rb)]) = post
  have e1 : s.perm.length ≤ 68719476736 := by omega
  have e2 : s.byt.length ≤ 68719476736 := by omega
  simp only [go_sem,Nat.reduceAdd,Nat.reduceSub,Nat.reduceMul,Nat.reduceEqDiff,Nat.reduceLeDiff,Nat.reduceLT,↓reduceIte,Int.reduceToNat,reduceCtorEq,Int.reduceLT,Int.reduceLE,Int.reduceGT,Int.reduceGE,Int.reduceEq,Int.reduceNe,Int.reduceNeg,Int.reduceAdd,Int.reduceSub,Sp.av,List.length_map,e1,e2,and_false]
  refine .pick (o' := .ret (.agg [.sl 0 0 s.perm.length none, .sl 1 0 s.byt.length none])) (H' := [.rows 1 (s.perm.map r1), .rows 1 (s.byt.map rb)]) [3, 4] (by simp) rfl ?_ rfl (.done (by rw [← hpost]; exact ⟨rfl, rfl⟩))
  simp [Blk.ren, Function.comp, AV.ren]
theorem rcopy3_u (s : Sp) (h1 : s.perm.length ≤ 1000000) (h2 : s.byt.length ≤ 1000000) (H : Heap) :
    ACalls Tryz.prog 78 [s.av] H (fun o H2 => o = .ret (.agg [.sl H.length 0 s.perm.length none, .sl (H.length + 1) 0 s.byt.length none]) ∧ H2 = H ++ [.rows 1 (s.perm.map r1), .rows 1 (s.byt.map rb)]) :=
  ACalls.fresh2 (rcopy3_c s h1 h2) rfl (blt0 (r1_lt0 _)) (blt0 (rb_lt0 _)) (by simp [AV.ren, renL, pi])
theorem stands_c (s : Sp) (hs : s.ok) (a : Int) : ACalls Tryz.prog 45 [s.av, iv a] [] (fun o H => o = .ret (stand s a).rav ∧ H = []) := by
  refine ACalls.up ?_
  refine ACalls.intro (cs := []) (n := 9) Tryz.func45 rfl rfl rfl (by kernel_rfl) rfl ?_
  generalize hpost : (fun (o : Out) (H : Heap) => o = Out.ret (stand s a).rav ∧ H = []) = post
  simp only [go_sem,Nat.reduceAdd,Nat.reduceSub,Nat.reduceMul,Nat.reduceEqDiff,Nat.reduceLeDiff,Nat.reduceLT,↓reduceIte,Int.reduceToNat,reduceCtorEq,Int.reduceLT,Int.reduceLE,Int.reduceGT,Int.reduceGE,Int.reduceEq,Int.reduceNe,Int.reduceNeg,Int.reduceAdd,Int.reduceSub,Sp.av]
  refine rK_use (enters_of Tryz.func81 rfl (by decide)) (ACalls.pure_use (rfetched_c s hs a 12 (by decide)) rfl (by simp [AV.lt])) ?_
  have hbl := s.fet_len a 12 0
  have hst : stand s a = dec (s.fet a 12 0) := rfl
  generalize hb : s.fet a 12 0 = b at *
  simp only [go_sem,Nat.reduceAdd,Nat.reduceSub,Nat.reduceMul,Nat.reduceEqDiff,Nat.reduceLeDiff,Nat.reduceLT,↓reduceIte,Int.reduceToNat,reduceCtorEq,Int.reduceLT,Int.reduceLE,Int.reduceGT,Int.reduceGE,Int.reduceEq,Int.reduceNe,Int.reduceNeg,Int.reduceAdd,Int.reduceSub]
  refine rK_use (enters_of Tryz.func82 rfl (by decide)) (ACalls.pure_use (rdecode_c b (by omega)) rfl (by simp [Dec.rav, AV.lt, ltL, Ins.av, Ins.cells])) ?_
  simp only [go_sem,Nat.reduceAdd,Nat.reduceSub,Nat.reduceMul,Nat.reduceEqDiff,Nat.reduceLeDiff,Nat.reduceLT,↓reduceIte,Int.reduceToNat,reduceCtorEq,Int.reduceLT,Int.reduceLE,Int.reduceGT,Int.reduceGE,Int.reduceEq,Int.reduceNe,Int.reduceNeg,Int.reduceAdd,Int.reduceSub,Dec.rav,Ins.av,Ins.cells]
  refine finv (by simp [AV.lt, ltL]) ?_ _
  rw [← hpost, hst]
  exact ⟨rfl, rfl⟩
theorem idx_at {l : List Pt} (hs : Srt l) {a : Int} {i : Nat} {x : Pt} (hx : l[i]? = some x) (h1 : ∀ (k : Nat) (y : Pt), k < i → l[k]? = some y → y.at_ ≠ a) (h : x.at_ = a) : idx a l = i := by
  have : lb a l = i := lb_eq hs (Nat.le_of_lt (List.getElem?_eq_some_iff.1 hx).1) (fun k y hk hy => by
    have := srt_lt hs hk hy hx
    have := h1 k y hk hy
    omega) (fun y hy => by rw [hx] at hy; cases hy; omega)
  unfold idx
  rw [this, hx]
  simp [h]
theorem idx_no {l : List Pt} {a : Int} (h1 : ∀ y ∈ l, y.at_ ≠ a) : idx a l = -1 := by
  unfold idx
  cases h : l[lb a l]? with
  | none => rfl
  | some y => simp [h1 y (List.mem_of_getElem? h)]
theorem rindex_c (p : Pd) (hs : Srt p.l) (hl : p.l.length ≤ 1000000) (a : Int) : ACalls Tryz.prog 43 [p.av, iv a] [] (fun o H => o = .ret (iv (idx a p.l)) ∧ H = []) := by
  refine ACalls.up ?_
  refine ACalls.intro (cs := []) (n := 22) Tryz.func43 rfl rfl rfl (by kernel_rfl) rfl ?_
  generalize hpost : (fun (o : Out) (H : Heap) => o = Out.ret (iv (idx a p.l)) ∧ H = []) = post
  have fin : ∀ n H, n = idx a p.l → Up 0 post (.ret (iv n)) H := fun n H h => finv rfl (by rw [← hpost, ← h]; exact ⟨rfl, rfl⟩) H
  simp only [go_sem,Nat.reduceAdd,Nat.reduceSub,Nat.reduceMul,Nat.reduceEqDiff,Nat.reduceLeDiff,Nat.reduceLT,↓reduceIte,Int.reduceToNat,reduceCtorEq,Int.reduceLT,Int.reduceLE,Int.reduceGT,Int.reduceGE,Int.reduceEq,Int.reduceNe,Int.reduceNeg,Int.reduceAdd,Int.reduceSub,Pd.av]
  refine loop_fam (fun i : Nat => (((Ch.nil.put 1 (iv a)).put 2 (.ptr 0 0 0)).put 5 (iv i))) (fun _ => [.rows 3 [[.view false 1 (p.s.perm.map r1), .view false 1 (p.s.byt.map rb), .view false 3 (p.l.map rp)]]])
    (fun i => p.l.length - i) (fun i => i ≤ p.l.length ∧ ∀ (k : Nat) (y : Pt), k < i → p.l[k]? = some y → y.at_ ≠ a) 0 (by kernel_rfl) ⟨Nat.zero_le _, fun k y hk => absurd hk (Nat.not_lt_zero _)⟩ (Wk.slots' rfl (by simp [wkS, Ch.get])) ?_
  rintro i ⟨hi, ha⟩ K hK
  simp only [go_sem,Nat.reduceAdd,Nat.reduceSub,Nat.reduceMul,Nat.reduceEqDiff,Nat.reduceLeDiff,Nat.reduceLT,↓reduceIte,Int.reduceToNat,reduceCtorEq,Int.reduceLT,Int.reduceLE,Int.reduceGT,Int.reduceGE,Int.reduceEq,Int.reduceNe,Int.reduceNeg,Int.reduceAdd,Int.reduceSub,List.length_map]
  refine condD_dec (fun hc => ?_) (fun hc => ?_)
  · obtain ⟨x, hx⟩ := at_lt (l := p.l) (i := i) (by omega)
    have e1 : iw .i64 ((i : Int) + 1) = ((i + 1 : Nat) : Int) := by rw [iw64] <;> omega
    have g1 : (0 : Int) ≤ i ∧ (i : Int) < p.l.length := ⟨by omega, by omega⟩
    simp only [go_sem,Nat.reduceAdd,Nat.reduceSub,Nat.reduceMul,Nat.reduceEqDiff,Nat.reduceLeDiff,Nat.reduceLT,↓reduceIte,Int.reduceToNat,reduceCtorEq,Int.reduceLT,Int.reduceLE,Int.reduceGT,Int.reduceGE,Int.reduceEq,Int.reduceNe,Int.reduceNeg,Int.reduceAdd,Int.reduceSub,g1,hx,List.length_map,List.getElem?_map]
    refine condD_dec (fun he => ?_) (fun he => ?_)
    · simp only [go_sem,Nat.reduceAdd,Nat.reduceSub,Nat.reduceMul,Nat.reduceEqDiff,Nat.reduceLeDiff,Nat.reduceLT,↓reduceIte,Int.reduceToNat,reduceCtorEq,Int.reduceLT,Int.reduceLE,Int.reduceGT,Int.reduceGE,Int.reduceEq,Int.reduceNe,Int.reduceNeg,Int.reduceAdd,Int.reduceSub]
      exact fin i _ (idx_at hs hx ha he).symm
    · simp only [go_sem,Nat.reduceAdd,Nat.reduceSub,Nat.reduceMul,Nat.reduceEqDiff,Nat.reduceLeDiff,Nat.reduceLT,↓reduceIte,Int.reduceToNat,reduceCtorEq,Int.reduceLT,Int.reduceLE,Int.reduceGT,Int.reduceGE,Int.reduceEq,Int.reduceNe,Int.reduceNeg,Int.reduceAdd,Int.reduceSub,e1]
      refine hK (i + 1) _ _ ⟨by omega, fun k y hk hy => ?_⟩ (by omega) (Wk.slots' rfl (by simp [wkS, Ch.get]))
      rcases Nat.lt_or_eq_of_le (Nat.le_of_lt_succ hk) with hk | rfl
      · exact ha k y hk hy
      · rw [hx] at hy; cases hy; exact he
  · simp only [go_sem,Nat.reduceAdd,Nat.reduceSub,Nat.reduceMul,Nat.reduceEqDiff,Nat.reduceLeDiff,Nat.reduceLT,↓reduceIte,Int.reduceToNat,reduceCtorEq,Int.reduceLT,Int.reduceLE,Int.reduceGT,Int.reduceGE,Int.reduceEq,Int.reduceNe,Int.reduceNeg,Int.reduceAdd,Int.reduceSub]
    refine fin (-1) _ (idx_no fun y hy => ?_).symm
    obtain ⟨k, hk⟩ := List.getElem?_of_mem hy
    exact ha k y (by have := (List.getElem?_eq_some_iff.1 hk).1; omega) hk
theorem cleaned_c (p : Pd) (h : p.fit) (hb : ∀ y ∈ p.l, 0 ≤ y.at_ ∧ y.at_ < p.s.byt.length) : ACalls Tryz.prog 46 [p.av] [] (fun o H => o = .ret p.clean.av ∧ H = []) := by
  refine ACalls.up ?_
  refine ACalls.intro (cs := []) (n := 31) Tryz.func46 rfl rfl rfl (by kernel_rfl) rfl ?_
  generalize hpost : (fun (o : Out) (H : Heap) => o = Out.ret p.clean.av ∧ H = []) = post
  have h1 := h.h1
  have h2 := h.h2
  have h3 := h.h3
  simp only [go_sem,Nat.reduceAdd,Nat.reduceSub,Nat.reduceMul,Nat.reduceEqDiff,Nat.reduceLeDiff,Nat.reduceLT,↓reduceIte,Int.reduceToNat,reduceCtorEq,Int.reduceLT,Int.reduceLE,Int.reduceGT,Int.reduceGE,Int.reduceEq,Int.reduceNe,Int.reduceNeg,Int.reduceAdd,Int.reduceSub,Pd.av]
  refine rK_use (enters_of Tryz.func78 rfl (by decide)) (rcopy3_u p.s (by omega) (by omega) _) ?_
  simp only [go_sem,Nat.reduceAdd,Nat.reduceSub,Nat.reduceMul,Nat.reduceEqDiff,Nat.reduceLeDiff,Nat.reduceLT,↓reduceIte,Int.reduceToNat,reduceCtorEq,Int.reduceLT,Int.reduceLE,Int.reduceGT,Int.reduceGE,Int.reduceEq,Int.reduceNe,Int.reduceNeg,Int.reduceAdd,Int.reduceSub]
  refine loop_fam (fun i : Nat => ((((Ch.nil.put 1 (.ptr 0 0 0)).put 2 (.ptr 1 0 0)).put 3 (.ptr 4 0 0)).put 4 (iv i)))
    (fun i => [.rows 3 [[.view false 1 (p.s.perm.map r1), .view false 1 (p.s.byt.map rb), .view false 3 (p.l.map rp)]], .rows 2 [[.view true 0 [], .view true 0 []]], .rows 1 (p.s.perm.map r1), .rows 1 ((putL Pt.old (p.l.take i) p.s).byt.map rb), .rows 2 [[.sl 2 0 p.s.perm.length none, .sl 3 0 p.s.byt.length none]]])
    (fun i => p.l.length - i) (fun i => i ≤ p.l.length) 0 (by kernel_rfl) (Nat.zero_le _) (Wk.slots' rfl (by simp [wkS, Ch.get])) ?_
  rintro i hi K hK
  simp only [go_sem,Nat.reduceAdd,Nat.reduceSub,Nat.reduceMul,Nat.reduceEqDiff,Nat.reduceLeDiff,Nat.reduceLT,↓reduceIte,Int.reduceToNat,reduceCtorEq,Int.reduceLT,Int.reduceLE,Int.reduceGT,Int.reduceGE,Int.reduceEq,Int.reduceNe,Int.reduceNeg,Int.reduceAdd,Int.reduceSub,List.length_map]
  refine condD_dec (fun hc => ?_) (fun hc => ?_)
  · obtain ⟨x, hx⟩ := at_lt (l := p.l) (i := i) (by omega)
    obtain ⟨b0, b1⟩ := hb x (List.mem_of_getElem? hx)
    have e1 : iw .i64 ((i : Int) + 1) = ((i + 1 : Nat) : Int) := by rw [iw64] <;> omega
    have g1 : (0 : Int) ≤ i ∧ (i : Int) < p.l.length := ⟨by omega, by omega⟩
    have hl : (putL Pt.old (p.l.take i) p.s).byt.length = p.s.byt.length := putL_len ..
    have g3 : x.at_.toNat < p.s.byt.length := by omega
    obtain ⟨z, hz⟩ := at_lt (l := (putL Pt.old (p.l.take i) p.s).byt) (i := x.at_.toNat) (by omega)
    have hset : ((putL Pt.old (p.l.take i) p.s).byt.map rb).set x.at_.toNat [bv x.old] = (putL Pt.old (p.l.take (i + 1)) p.s).byt.map rb := by
      rw [putL_succ hx, Sp.put, List.map_set]
    simp only [go_sem,Nat.reduceAdd,Nat.reduceSub,Nat.reduceMul,Nat.reduceEqDiff,Nat.reduceLeDiff,Nat.reduceLT,↓reduceIte,Int.reduceToNat,reduceCtorEq,Int.reduceLT,Int.reduceLE,Int.reduceGT,Int.reduceGE,Int.reduceEq,Int.reduceNe,Int.reduceNeg,Int.reduceAdd,Int.reduceSub]
    refine draw [.qu 0 0, .qu 0 0, .qu 0 0, .qu 0 0, .qu 0 0, .qu 0 0, .qu 0 0, .qu 0 0, .qu 0 0, .qu 0 0, .qu 0 0, .qu 0 0, .qu 0 0, .qu 0 0, .qu 0 0, .mn 0] (by kernel_rfl) (by kernel_rfl) ?_
    simp only [go_sem,Nat.reduceAdd,Nat.reduceSub,Nat.reduceMul,Nat.reduceEqDiff,Nat.reduceLeDiff,Nat.reduceLT,↓reduceIte,Int.reduceToNat,reduceCtorEq,Int.reduceLT,Int.reduceLE,Int.reduceGT,Int.reduceGE,Int.reduceEq,Int.reduceNe,Int.reduceNeg,Int.reduceAdd,Int.reduceSub,hx,List.getElem?_map,List.length_map,g1,b0,b1,hl,g3,hz,hset,e1]
    exact hK (i + 1) _ _ (by omega) (by omega) (Wk.slots' rfl (by simp [wkS, Ch.get]))
  · simp only [go_sem,Nat.reduceAdd,Nat.reduceSub,Nat.reduceMul,Nat.reduceEqDiff,Nat.reduceLeDiff,Nat.reduceLT,↓reduceIte,Int.reduceToNat,reduceCtorEq,Int.reduceLT,Int.reduceLE,Int.reduceGT,Int.reduceGE,Int.reduceEq,Int.reduceNe,Int.reduceNeg,Int.reduceAdd,Int.reduceSub]
    have : i = p.l.length := by omega
    subst this
    rw [List.take_length]
    refine up_two 2 1 (p.s.perm.map r1) 3 1 (p.clean.byt.map rb) (by decide) rfl rfl (r1_lt0 _) (rb_lt0 _) ?_ ?_ ?_ ?_
    · simp [Out.fzOk, AV.fzOk, fzOkL]
    · simp [Out.fzOk, Out.fz, AV.fz, fzL, AV.fzOk, fzOkL, Pd.clean, putL_len]
    · simp [Out.fz, AV.fz, fzL, Out.lt, AV.lt, ltL]
    · rw [← hpost]
      have hl : p.clean.byt.length = p.s.byt.length := putL_len ..
      have e4 : (p.clean.byt.map rb).take p.s.byt.length = p.clean.byt.map rb := List.take_of_length_le (by simp [hl])
      have e5 : (p.s.perm.map r1).take p.s.perm.length = p.s.perm.map r1 := List.take_of_length_le (by simp)
      simp only [Out.fz, AV.fz, fzL, if_true, if_false, Nat.reduceEqDiff, reduceIte, List.drop_zero, e4, e5]
      refine ⟨?_, trivial⟩
      rw [Sp.av, show p.clean.perm = p.s.perm from putL_perm ..]
end Go.Proofs.YtfiflailjbmlpaaGreatDoor
set_option maxRecDepth 100000
set_option linter.unusedVariables false
set_option linter.unusedSimpArgs false
namespace Go.Proofs.YtfiflailjbmlpaaGreatDoor
open Go.AM
theorem rpcheck_c (p : Pd) : ACalls Tryz.prog 26 [p.av] [] (fun o H => o = .ret (iv p.chk) ∧ H = []) := by
  refine ACalls.up ?_
  refine ACalls.intro (cs := []) (n := 90) Tryz.func26 rfl rfl rfl (by kernel_rfl) rfl ?_
  generalize hpost : (fun (o : Out) (H : Heap) => o = Out.ret (iv p.chk) ∧ H = []) = post
  have fin : ∀ n H, n = p.chk → Up 0 post (.ret (iv n)) H := fun n H h => finv rfl (by rw [← hpost, ← h]; exact ⟨rfl, rfl⟩) H
  simp only [go_sem,Nat.reduceAdd,Nat.reduceSub,Nat.reduceMul,Nat.reduceEqDiff,Nat.reduceLeDiff,Nat.reduceLT,↓reduceIte,Int.reduceToNat,reduceCtorEq,Int.reduceLT,Int.reduceLE,Int.reduceGT,Int.reduceGE,Int.reduceEq,Int.reduceNe,Int.reduceNeg,Int.reduceAdd,Int.reduceSub,Pd.av]
  refine rK_use (enters_of Tryz.func64 rfl (by decide)) (ACalls.pure_use (rcheck_c p.s) rfl rfl) ?_
  by_cases hs : p.s.ok
  rotate_left
  · rw [Sp.chk, if_neg hs]
    simp only [go_sem,Nat.reduceAdd,Nat.reduceSub,Nat.reduceMul,Nat.reduceEqDiff,Nat.reduceLeDiff,Nat.reduceLT,↓reduceIte,Int.reduceToNat,reduceCtorEq,Int.reduceLT,Int.reduceLE,Int.reduceGT,Int.reduceGE,Int.reduceEq,Int.reduceNe,Int.reduceNeg,Int.reduceAdd,Int.reduceSub]
    exact fin 70 _ (Pd.chk_no fun h => hs h.sok).symm
  rw [Sp.chk_ok hs]
  simp only [go_sem,Nat.reduceAdd,Nat.reduceSub,Nat.reduceMul,Nat.reduceEqDiff,Nat.reduceLeDiff,Nat.reduceLT,↓reduceIte,Int.reduceToNat,reduceCtorEq,Int.reduceLT,Int.reduceLE,Int.reduceGT,Int.reduceGE,Int.reduceEq,Int.reduceNe,Int.reduceNeg,Int.reduceAdd,Int.reduceSub,List.length_map]
  refine condD_dec (fun hl => ?_) (fun hl => ?_)
  · simp only [go_sem,Nat.reduceAdd,Nat.reduceSub,Nat.reduceMul,Nat.reduceEqDiff,Nat.reduceLeDiff,Nat.reduceLT,↓reduceIte,Int.reduceToNat,reduceCtorEq,Int.reduceLT,Int.reduceLE,Int.reduceGT,Int.reduceGE,Int.reduceEq,Int.reduceNe,Int.reduceNeg,Int.reduceAdd,Int.reduceSub]
    exact fin 70 _ (Pd.chk_no fun h => by have := h.len; omega).symm
  simp only [go_sem,Nat.reduceAdd,Nat.reduceSub,Nat.reduceMul,Nat.reduceEqDiff,Nat.reduceLeDiff,Nat.reduceLT,↓reduceIte,Int.reduceToNat,reduceCtorEq,Int.reduceLT,Int.reduceLE,Int.reduceGT,Int.reduceGE,Int.reduceEq,Int.reduceNe,Int.reduceNeg,Int.reduceAdd,Int.reduceSub,List.length_map]
  have hbl := byt_len hs
  refine loop_fam (fun i : Nat => ((Ch.nil.put 1 (.ptr 0 0 0)).put 3 (iv i)))
    (fun _ => [.rows 3 [[.view false 1 (p.s.perm.map r1), .view false 1 (p.s.byt.map rb), .view false 3 (p.l.map rp)]]]) (fun i => p.l.length - i) (fun i => i ≤ p.l.length ∧ ∀ k, k < i → okAt p.s p.l k) 0 (by kernel_rfl) ⟨Nat.zero_le _, fun k hk => absurd hk (Nat.not_lt_zero _)⟩ (Wk.slots' rfl (by simp [wkS, Ch.get])) ?_
  rintro i ⟨hi, ha⟩ K hK
  simp only [go_sem,Nat.reduceAdd,Nat.reduceSub,Nat.reduceMul,Nat.reduceEqDiff,Nat.reduceLeDiff,Nat.reduceLT,↓reduceIte,Int.reduceToNat,reduceCtorEq,Int.reduceLT,Int.reduceLE,Int.reduceGT,Int.reduceGE,Int.reduceEq,Int.reduceNe,Int.reduceNeg,Int.reduceAdd,Int.reduceSub,List.length_map]
  refine condD_dec (fun hc => ?_) (fun hc => ?_)
  · obtain ⟨x, hx⟩ := at_lt (l := p.l) (i := i) (by omega)
    have e1 : iw .i64 ((i : Int) + 1) = ((i + 1 : Nat) : Int) := by rw [iw64] <;> omega
    have g1 : (0 : Int) ≤ i ∧ (i : Int) < p.l.length := ⟨by omega, by omega⟩
    have bad : ¬ okAt p.s p.l i → ¬ p.ok := fun h hp => h ((okAt_all.2 ⟨hp.sor, hp.fits⟩) i (by omega))
    simp only [go_sem,Nat.reduceAdd,Nat.reduceSub,Nat.reduceMul,Nat.reduceEqDiff,Nat.reduceLeDiff,Nat.reduceLT,↓reduceIte,Int.reduceToNat,reduceCtorEq,Int.reduceLT,Int.reduceLE,Int.reduceGT,Int.reduceGE,Int.reduceEq,Int.reduceNe,Int.reduceNeg,Int.reduceAdd,Int.reduceSub,g1,List.length_map,List.getElem?_map,hx]
    refine draw [.qu 0 0, .qu 0 0, .qu 0 0, .qu 0 0, .qu 0 0, .qu 0 0, .qu 0 0, .qu 0 0, .qu 0 0, .qu 0 0, .qu 0 0, .qu 0 0, .qu 0 0, .qu 0 0, .qu 0 0, .qu 0 0, .qu 0 0, .qu 0 0, .qu 0 0, .qu 0 0, .qu 0 0, .qu 0 0, .qu 0 0, .qu 0 0, .qu 0 0, .qu 0 0, .qu 0 0, .qu 0 0, .qu 0 0, .qu 0 0, .qu 0 0, .qu 0 0, .qu 0 0, .qu 0 0, .qu 0 0, .qu 0 0, .qu 0 0, .qu 0 0, .qu 0 0, .qu 0 0, .qu 0 0, .qu 0 0] (by kernel_rfl) (by kernel_rfl) ?_
    have go : okAt p.s p.l i → ∀ s' H', Wk 0 90 s' H' ((Ch.nil.put 1 (.ptr 0 0 0)).put 3 (iv (i + 1 : Nat))) [.rows 3 [[.view false 1 (p.s.perm.map r1), .view false 1 (p.s.byt.map rb), .view false 3 (p.l.map rp)]]] → K s' H' := fun h s' H' hw =>
      hK (i + 1) s' H' ⟨by omega, fun k hk => (Nat.lt_or_eq_of_le (Nat.le_of_lt_succ hk)).elim (fun hk => ha k hk) (fun e => e ▸ h)⟩ (by omega) hw
    simp only [go_sem,Nat.reduceAdd,Nat.reduceSub,Nat.reduceMul,Nat.reduceEqDiff,Nat.reduceLeDiff,Nat.reduceLT,↓reduceIte,Int.reduceToNat,reduceCtorEq,Int.reduceLT,Int.reduceLE,Int.reduceGT,Int.reduceGE,Int.reduceEq,Int.reduceNe,Int.reduceNeg,Int.reduceAdd,Int.reduceSub]
    refine dG_dec (fun c3 => ?_) (fun c3 => ?_)
    · have e2 : iw .i64 ((i : Int) - 1) = ((i - 1 : Nat) : Int) := by rw [iw64] <;> omega
      obtain ⟨y, hy⟩ := at_lt (l := p.l) (i := i - 1) (by omega)
      have g3 : (0 : Int) ≤ ((i - 1 : Nat) : Int) ∧ ((i - 1 : Nat) : Int) < p.l.length := ⟨by omega, by omega⟩
      simp only [go_sem,Nat.reduceAdd,Nat.reduceSub,Nat.reduceMul,Nat.reduceEqDiff,Nat.reduceLeDiff,Nat.reduceLT,↓reduceIte,Int.reduceToNat,reduceCtorEq,Int.reduceLT,Int.reduceLE,Int.reduceGT,Int.reduceGE,Int.reduceEq,Int.reduceNe,Int.reduceNeg,Int.reduceAdd,Int.reduceSub,c3,e2,g3,hy,List.length_map,List.getElem?_map]
      refine dG_dec (fun c4 => ?_) (fun c4 => ?_)
      · simp only [go_sem,Nat.reduceAdd,Nat.reduceSub,Nat.reduceMul,Nat.reduceEqDiff,Nat.reduceLeDiff,Nat.reduceLT,↓reduceIte,Int.reduceToNat,reduceCtorEq,Int.reduceLT,Int.reduceLE,Int.reduceGT,Int.reduceGE,Int.reduceEq,Int.reduceNe,Int.reduceNeg,Int.reduceAdd,Int.reduceSub,c4]
        exact fin 70 _ (Pd.chk_no (bad fun h => by have := (h x hx).2 y (by omega) hy; omega)).symm
      simp only [go_sem,Nat.reduceAdd,Nat.reduceSub,Nat.reduceMul,Nat.reduceEqDiff,Nat.reduceLeDiff,Nat.reduceLT,↓reduceIte,Int.reduceToNat,reduceCtorEq,Int.reduceLT,Int.reduceLE,Int.reduceGT,Int.reduceGE,Int.reduceEq,Int.reduceNe,Int.reduceNeg,Int.reduceAdd,Int.reduceSub,c4]
      have hadj : ∀ y, 0 < i → p.l[i - 1]? = some y → y.at_ < x.at_ := fun z _ hz => by rw [hy] at hz; cases hz; omega
      refine dG_dec (fun c5 => ?_) (fun c5 => ?_)
      · simp only [go_sem,Nat.reduceAdd,Nat.reduceSub,Nat.reduceMul,Nat.reduceEqDiff,Nat.reduceLeDiff,Nat.reduceLT,↓reduceIte,Int.reduceToNat,reduceCtorEq,Int.reduceLT,Int.reduceLE,Int.reduceGT,Int.reduceGE,Int.reduceEq,Int.reduceNe,Int.reduceNeg,Int.reduceAdd,Int.reduceSub,c5]
        exact fin 70 _ (Pd.chk_no (bad fun h => by have := (h x hx).1.n1; omega)).symm
      simp only [go_sem,Nat.reduceAdd,Nat.reduceSub,Nat.reduceMul,Nat.reduceEqDiff,Nat.reduceLeDiff,Nat.reduceLT,↓reduceIte,Int.reduceToNat,reduceCtorEq,Int.reduceLT,Int.reduceLE,Int.reduceGT,Int.reduceGE,Int.reduceEq,Int.reduceNe,Int.reduceNeg,Int.reduceAdd,Int.reduceSub,c5]
      refine dG_dec (fun c6 => ?_) (fun c6 => ?_)
      · simp only [go_sem,Nat.reduceAdd,Nat.reduceSub,Nat.reduceMul,Nat.reduceEqDiff,Nat.reduceLeDiff,Nat.reduceLT,↓reduceIte,Int.reduceToNat,reduceCtorEq,Int.reduceLT,Int.reduceLE,Int.reduceGT,Int.reduceGE,Int.reduceEq,Int.reduceNe,Int.reduceNeg,Int.reduceAdd,Int.reduceSub,c6]
        exact fin 70 _ (Pd.chk_no (bad fun h => by have := (h x hx).1.n2; omega)).symm
      simp only [go_sem,Nat.reduceAdd,Nat.reduceSub,Nat.reduceMul,Nat.reduceEqDiff,Nat.reduceLeDiff,Nat.reduceLT,↓reduceIte,Int.reduceToNat,reduceCtorEq,Int.reduceLT,Int.reduceLE,Int.reduceGT,Int.reduceGE,Int.reduceEq,Int.reduceNe,Int.reduceNeg,Int.reduceAdd,Int.reduceSub,c6]
      refine y_call (enters_of Tryz.func65 rfl (by decide)) (fun _ => ACalls.pure_use (inside_c p.s x.at_) rfl rfl) ?_
      cases hh : p.s.has x.at_ with
      | false =>
        simp only [go_sem,Nat.reduceAdd,Nat.reduceSub,Nat.reduceMul,Nat.reduceEqDiff,Nat.reduceLeDiff,Nat.reduceLT,↓reduceIte,Int.reduceToNat,reduceCtorEq,Int.reduceLT,Int.reduceLE,Int.reduceGT,Int.reduceGE,Int.reduceEq,Int.reduceNe,Int.reduceNeg,Int.reduceAdd,Int.reduceSub]
        refine fin 70 _ (Pd.chk_no (bad fun h => ?_)).symm
        have h1 := (h x hx).1.a0
        have h2 := (h x hx).1.a1
        simp only [Sp.has, decide_eq_true h1, decide_eq_true h2] at hh
        cases hh
      | true =>
        obtain ⟨b, hb, b0, b1⟩ := Sp.byt_at hh
        have g2 : (0 : Int) ≤ x.at_ ∧ x.at_ < p.s.byt.length := ⟨b0, b1⟩
        simp only [go_sem,Nat.reduceAdd,Nat.reduceSub,Nat.reduceMul,Nat.reduceEqDiff,Nat.reduceLeDiff,Nat.reduceLT,↓reduceIte,Int.reduceToNat,reduceCtorEq,Int.reduceLT,Int.reduceLE,Int.reduceGT,Int.reduceGE,Int.reduceEq,Int.reduceNe,Int.reduceNeg,Int.reduceAdd,Int.reduceSub,g2,List.length_map,List.getElem?_map,hb]
        refine condD_dec (fun c7 => ?_) (fun c7 => ?_)
        · simp only [go_sem,Nat.reduceAdd,Nat.reduceSub,Nat.reduceMul,Nat.reduceEqDiff,Nat.reduceLeDiff,Nat.reduceLT,↓reduceIte,Int.reduceToNat,reduceCtorEq,Int.reduceLT,Int.reduceLE,Int.reduceGT,Int.reduceGE,Int.reduceEq,Int.reduceNe,Int.reduceNeg,Int.reduceAdd,Int.reduceSub]
          refine fin 70 _ (Pd.chk_no (bad fun h => ?_)).symm
          have := (h x hx).1.brk
          rw [hb] at this
          cases this
          exact absurd rfl c7
        · simp only [go_sem,Nat.reduceAdd,Nat.reduceSub,Nat.reduceMul,Nat.reduceEqDiff,Nat.reduceLeDiff,Nat.reduceLT,↓reduceIte,Int.reduceToNat,reduceCtorEq,Int.reduceLT,Int.reduceLE,Int.reduceGT,Int.reduceGE,Int.reduceEq,Int.reduceNe,Int.reduceNeg,Int.reduceAdd,Int.reduceSub,e1]
          refine go (fun z hz => ?_) _ _ (Wk.drop (m := 1) (by simp [wkS, Ch.get]) (Nat.zero_le _) (by simp) (by simp [chLt, AV.lt]) rfl (by simp [Blk.lt, ltL, AV.lt]))
          rw [hx] at hz
          cases hz
          refine ⟨⟨by omega, by omega, by omega, by omega, ?_⟩, hadj⟩
          rw [hb]
          have : (b.toNat : Int) = 204 := Decidable.not_not.1 c7
          exact congrArg some (UInt8.toNat_inj.1 (show b.toNat = (204 : UInt8).toNat by simp; omega))
    · simp only [go_sem,Nat.reduceAdd,Nat.reduceSub,Nat.reduceMul,Nat.reduceEqDiff,Nat.reduceLeDiff,Nat.reduceLT,↓reduceIte,Int.reduceToNat,reduceCtorEq,Int.reduceLT,Int.reduceLE,Int.reduceGT,Int.reduceGE,Int.reduceEq,Int.reduceNe,Int.reduceNeg,Int.reduceAdd,Int.reduceSub,c3]
      have hadj : ∀ y, 0 < i → p.l[i - 1]? = some y → y.at_ < x.at_ := fun z h0 _ => by omega
      refine dG_dec (fun c5 => ?_) (fun c5 => ?_)
      · simp only [go_sem,Nat.reduceAdd,Nat.reduceSub,Nat.reduceMul,Nat.reduceEqDiff,Nat.reduceLeDiff,Nat.reduceLT,↓reduceIte,Int.reduceToNat,reduceCtorEq,Int.reduceLT,Int.reduceLE,Int.reduceGT,Int.reduceGE,Int.reduceEq,Int.reduceNe,Int.reduceNeg,Int.reduceAdd,Int.reduceSub,c5]
        exact fin 70 _ (Pd.chk_no (bad fun h => by have := (h x hx).1.n1; omega)).symm
      simp only [go_sem,Nat.reduceAdd,Nat.reduceSub,Nat.reduceMul,Nat.reduceEqDiff,Nat.reduceLeDiff,Nat.reduceLT,↓reduceIte,Int.reduceToNat,reduceCtorEq,Int.reduceLT,Int.reduceLE,Int.reduceGT,Int.reduceGE,Int.reduceEq,Int.reduceNe,Int.reduceNeg,Int.reduceAdd,Int.reduceSub,c5]
      refine dG_dec (fun c6 => ?_) (fun c6 => ?_)
      · simp only [go_sem,Nat.reduceAdd,Nat.reduceSub,Nat.reduceMul,Nat.reduceEqDiff,Nat.reduceLeDiff,Nat.reduceLT,↓reduceIte,Int.reduceToNat,reduceCtorEq,Int.reduceLT,Int.reduceLE,Int.reduceGT,Int.reduceGE,Int.reduceEq,Int.reduceNe,Int.reduceNeg,Int.reduceAdd,Int.reduceSub,c6]
        exact fin 70 _ (Pd.chk_no (bad fun h => by have := (h x hx).1.n2; omega)).symm
      simp only [go_sem,Nat.reduceAdd,Nat.reduceSub,Nat.reduceMul,Nat.reduceEqDiff,Nat.reduceLeDiff,Nat.reduceLT,↓reduceIte,Int.reduceToNat,reduceCtorEq,Int.reduceLT,Int.reduceLE,Int.reduceGT,Int.reduceGE,Int.reduceEq,Int.reduceNe,Int.reduceNeg,Int.reduceAdd,Int.reduceSub,c6]
      refine y_call (enters_of Tryz.func65 rfl (by decide)) (fun _ => ACalls.pure_use (inside_c p.s x.at_) rfl rfl) ?_
      cases hh : p.s.has x.at_ with
      | false =>
        simp only [go_sem,Nat.reduceAdd,Nat.reduceSub,Nat.reduceMul,Nat.reduceEqDiff,Nat.reduceLeDiff,Nat.reduceLT,↓reduceIte,Int.reduceToNat,reduceCtorEq,Int.reduceLT,Int.reduceLE,Int.reduceGT,Int.reduceGE,Int.reduceEq,Int.reduceNe,Int.reduceNeg,Int.reduceAdd,Int.reduceSub]
        refine fin 70 _ (Pd.chk_no (bad fun h => ?_)).symm
        have h1 := (h x hx).1.a0
        have h2 := (h x hx).1.a1
        simp only [Sp.has, decide_eq_true h1, decide_eq_true h2] at hh
        cases hh
      | true =>
        obtain ⟨b, hb, b0, b1⟩ := Sp.byt_at hh
        have g2 : (0 : Int) ≤ x.at_ ∧ x.at_ < p.s.byt.length := ⟨b0, b1⟩
        simp only [go_sem,Nat.reduceAdd,Nat.reduceSub,Nat.reduceMul,Nat.reduceEqDiff,Nat.reduceLeDiff,Nat.reduceLT,↓reduceIte,Int.reduceToNat,reduceCtorEq,Int.reduceLT,Int.reduceLE,Int.reduceGT,Int.reduceGE,Int.reduceEq,Int.reduceNe,Int.reduceNeg,Int.reduceAdd,Int.reduceSub,g2,List.length_map,List.getElem?_map,hb]
        refine condD_dec (fun c7 => ?_) (fun c7 => ?_)
        · simp only [go_sem,Nat.reduceAdd,Nat.reduceSub,Nat.reduceMul,Nat.reduceEqDiff,Nat.reduceLeDiff,Nat.reduceLT,↓reduceIte,Int.reduceToNat,reduceCtorEq,Int.reduceLT,Int.reduceLE,Int.reduceGT,Int.reduceGE,Int.reduceEq,Int.reduceNe,Int.reduceNeg,Int.reduceAdd,Int.reduceSub]
          refine fin 70 _ (Pd.chk_no (bad fun h => ?_)).symm
          have := (h x hx).1.brk
          rw [hb] at this
          cases this
          exact absurd rfl c7
        · simp only [go_sem,Nat.reduceAdd,Nat.reduceSub,Nat.reduceMul,Nat.reduceEqDiff,Nat.reduceLeDiff,Nat.reduceLT,↓reduceIte,Int.reduceToNat,reduceCtorEq,Int.reduceLT,Int.reduceLE,Int.reduceGT,Int.reduceGE,Int.reduceEq,Int.reduceNe,Int.reduceNeg,Int.reduceAdd,Int.reduceSub,e1]
          refine go (fun z hz => ?_) _ _ (Wk.drop (m := 1) (by simp [wkS, Ch.get]) (Nat.zero_le _) (by simp) (by simp [chLt, AV.lt]) rfl (by simp [Blk.lt, ltL, AV.lt]))
          rw [hx] at hz
          cases hz
          refine ⟨⟨by omega, by omega, by omega, by omega, ?_⟩, hadj⟩
          rw [hb]
          have : (b.toNat : Int) = 204 := Decidable.not_not.1 c7
          exact congrArg some (UInt8.toNat_inj.1 (show b.toNat = (204 : UInt8).toNat by simp; omega))
  · simp only [go_sem,Nat.reduceAdd,Nat.reduceSub,Nat.reduceMul,Nat.reduceEqDiff,Nat.reduceLeDiff,Nat.reduceLT,↓reduceIte,Int.reduceToNat,reduceCtorEq,Int.reduceLT,Int.reduceLE,Int.reduceGT,Int.reduceGE,Int.reduceEq,Int.reduceNe,Int.reduceNeg,Int.reduceAdd,Int.reduceSub]
    have : i = p.l.length := by omega
    subst this
    have hall := okAt_all.1 ha
    refine rK_use (enters_of Tryz.func46 rfl (by decide)) (ACalls.pure_use (cleaned_c p ⟨by have := hs.p32; omega, by omega, by omega⟩ fun y hy => ⟨(hall.2 y hy).a0, (hall.2 y hy).a1⟩) rfl rfl) ?_
    have hcs : p.clean.ok := putL_ok _ _ hs
    simp only [go_sem,Nat.reduceAdd,Nat.reduceSub,Nat.reduceMul,Nat.reduceEqDiff,Nat.reduceLeDiff,Nat.reduceLT,↓reduceIte,Int.reduceToNat,reduceCtorEq,Int.reduceLT,Int.reduceLE,Int.reduceGT,Int.reduceGE,Int.reduceEq,Int.reduceNe,Int.reduceNeg,Int.reduceAdd,Int.reduceSub,Sp.av]
    refine loop_fam (fun i : Nat => (((Ch.nil.put 1 (.ptr 0 0 0)).put 5 (.ptr 1 0 0)).put 6 (iv i)))
      (fun _ => [.rows 3 [[.view false 1 (p.s.perm.map r1), .view false 1 (p.s.byt.map rb), .view false 3 (p.l.map rp)]], spB (.view false 1 (p.clean.perm.map r1)) (.view false 1 (p.clean.byt.map rb))]) (fun i => p.l.length - i) (fun i => i ≤ p.l.length ∧ ∀ x ∈ p.l.take i, (stand p.clean x.at_).e = 0) 0 (by kernel_rfl) ⟨Nat.zero_le _, by simp⟩ (Wk.slots' rfl (by simp [wkS, Ch.get])) ?_
    rintro i ⟨hi, hst⟩ K2 hK2
    simp only [go_sem,Nat.reduceAdd,Nat.reduceSub,Nat.reduceMul,Nat.reduceEqDiff,Nat.reduceLeDiff,Nat.reduceLT,↓reduceIte,Int.reduceToNat,reduceCtorEq,Int.reduceLT,Int.reduceLE,Int.reduceGT,Int.reduceGE,Int.reduceEq,Int.reduceNe,Int.reduceNeg,Int.reduceAdd,Int.reduceSub,List.length_map,spB]
    refine condD_dec (fun hc => ?_) (fun hc => ?_)
    · obtain ⟨x, hx⟩ := at_lt (l := p.l) (i := i) (by omega)
      have e1 : iw .i64 ((i : Int) + 1) = ((i + 1 : Nat) : Int) := by rw [iw64] <;> omega
      have g1 : (0 : Int) ≤ i ∧ (i : Int) < p.l.length := ⟨by omega, by omega⟩
      simp only [go_sem,Nat.reduceAdd,Nat.reduceSub,Nat.reduceMul,Nat.reduceEqDiff,Nat.reduceLeDiff,Nat.reduceLT,↓reduceIte,Int.reduceToNat,reduceCtorEq,Int.reduceLT,Int.reduceLE,Int.reduceGT,Int.reduceGE,Int.reduceEq,Int.reduceNe,Int.reduceNeg,Int.reduceAdd,Int.reduceSub]
      refine draw [.qu 0 0, .qu 0 0, .qu 0 0, .qu 0 0, .qu 0 0, .qu 0 0, .qu 0 0, .mn 0, .qu 1 1, .qu 1 1] (by kernel_rfl) (by kernel_rfl) ?_
      simp only [go_sem,Nat.reduceAdd,Nat.reduceSub,Nat.reduceMul,Nat.reduceEqDiff,Nat.reduceLeDiff,Nat.reduceLT,↓reduceIte,Int.reduceToNat,reduceCtorEq,Int.reduceLT,Int.reduceLE,Int.reduceGT,Int.reduceGE,Int.reduceEq,Int.reduceNe,Int.reduceNeg,Int.reduceAdd,Int.reduceSub,g1,hx,List.length_map,List.getElem?_map]
      refine dM_call (enters_of Tryz.func45 rfl (by decide)) (ACalls.pure_use (stands_c p.clean hcs x.at_) rfl (by simp [Dec.rav, AV.lt, ltL])) ?_
      rcases Decidable.em ((stand p.clean x.at_).e = 0) with h0 | h0
      · simp only [go_sem,Nat.reduceAdd,Nat.reduceSub,Nat.reduceMul,Nat.reduceEqDiff,Nat.reduceLeDiff,Nat.reduceLT,↓reduceIte,Int.reduceToNat,reduceCtorEq,Int.reduceLT,Int.reduceLE,Int.reduceGT,Int.reduceGE,Int.reduceEq,Int.reduceNe,Int.reduceNeg,Int.reduceAdd,Int.reduceSub,Dec.rav,eq_true h0,e1]
        refine hK2 (i + 1) _ _ ⟨by omega, fun y hy => ?_⟩ (by omega) (Wk.slots' rfl (by simp [wkS, Ch.get]))
        rw [List.take_add_one, hx, List.mem_append] at hy
        rcases hy with hy | hy
        · exact hst y hy
        · simp at hy; subst hy; exact h0
      · simp only [go_sem,Nat.reduceAdd,Nat.reduceSub,Nat.reduceMul,Nat.reduceEqDiff,Nat.reduceLeDiff,Nat.reduceLT,↓reduceIte,Int.reduceToNat,reduceCtorEq,Int.reduceLT,Int.reduceLE,Int.reduceGT,Int.reduceGE,Int.reduceEq,Int.reduceNe,Int.reduceNeg,Int.reduceAdd,Int.reduceSub,Dec.rav,eq_false h0]
        exact fin 70 _ (Pd.chk_no fun h => h0 (h.std x (List.mem_of_getElem? hx))).symm
    · simp only [go_sem,Nat.reduceAdd,Nat.reduceSub,Nat.reduceMul,Nat.reduceEqDiff,Nat.reduceLeDiff,Nat.reduceLT,↓reduceIte,Int.reduceToNat,reduceCtorEq,Int.reduceLT,Int.reduceLE,Int.reduceGT,Int.reduceGE,Int.reduceEq,Int.reduceNe,Int.reduceNeg,Int.reduceAdd,Int.reduceSub]
      exact fin 0 _ (Pd.chk_ok ⟨hs, by omega, hall.1, hall.2, fun x hx => hst x (by rw [List.take_of_length_le (by omega)]; exact hx)⟩).symm
end Go.Proofs.YtfiflailjbmlpaaGreatDoor
set_option maxRecDepth 100000
set_option linter.unusedVariables false
set_option linter.unusedSimpArgs false
namespace Go.Proofs.YtfiflailjbmlpaaGreatDoor
open Go.AM
theorem idx_some {p : Pd} {a : Int} {y : Pt} (h : p.cur a = some y) : idx a p.l = lb a p.l := cur_idx.2 y h
theorem idx_none {p : Pd} {a : Int} (h : p.cur a = none) : idx a p.l = -1 := by
  unfold Pd.cur at h
  unfold idx
  cases hl : p.l[lb a p.l]? with
  | none => rfl
  | some y =>
    rw [hl] at h
    simp only at h ⊢
    split at h
    · cases h
    · rename_i hn
      rw [if_neg hn]
def Sp.cells (s : Sp) : List AV := [.view false 1 (s.perm.map r1), .view false 1 (s.byt.map rb)]
def dispA (x : Ins) (a b : Int) : Ins × Int × Int := if x.chk = 0 then ((dispE x a b).1, (dispE x a b).2, 0) else (x0, 0, 20)
theorem dispA_ok {x : Ins} (h : x.ok) (a b : Int) : dispA x a b = ((dispE x a b).1, (dispE x a b).2, 0) := if_pos (if_pos h)
theorem dispA_no {x : Ins} (h : ¬ x.ok) (a b : Int) : dispA x a b = (x0, 0, 20) := if_neg (by rw [Ins.chk, if_neg h]; decide)
theorem rDisplace_c (x : Ins) (a b : Int) : ACalls Tryz.prog 17 [x.av, iv a, iv b] [] (fun o H => o = .ret (.agg ((dispA x a b).1.cells ++ [iv (dispA x a b).2.1, iv (dispA x a b).2.2])) ∧ H = []) := by
  refine ACalls.up ?_
  refine ACalls.intro (cs := []) (n := 58) Tryz.func17 rfl rfl rfl (by kernel_rfl) rfl ?_
  generalize hpost : (fun (o : Out) (H : Heap) => o = Out.ret (.agg ((dispA x a b).1.cells ++ [iv (dispA x a b).2.1, iv (dispA x a b).2.2])) ∧ H = []) = post
  by_cases hx : x.ok
  rotate_left
  · simp only [go_sem,Nat.reduceAdd,Nat.reduceSub,Nat.reduceMul,Nat.reduceEqDiff,Nat.reduceLeDiff,Nat.reduceLT,↓reduceIte,Int.reduceToNat,reduceCtorEq,Int.reduceLT,Int.reduceLE,Int.reduceGT,Int.reduceGE,Int.reduceEq,Int.reduceNe,Int.reduceNeg,Int.reduceAdd,Int.reduceSub,Ins.av,Ins.cells]
    refine rK_use (enters_of Tryz.func53 rfl (by decide)) (ACalls.pure_use (richeck_c x) rfl rfl) ?_
    rw [Ins.chk, if_neg hx]
    simp only [go_sem,Nat.reduceAdd,Nat.reduceSub,Nat.reduceMul,Nat.reduceEqDiff,Nat.reduceLeDiff,Nat.reduceLT,↓reduceIte,Int.reduceToNat,reduceCtorEq,Int.reduceLT,Int.reduceLE,Int.reduceGT,Int.reduceGE,Int.reduceEq,Int.reduceNe,Int.reduceNeg,Int.reduceAdd,Int.reduceSub]
    refine finv rfl ?_ _
    rw [← hpost, dispA_no hx]
    exact ⟨rfl, rfl⟩
  have fin : ∀ y n H, (y, n) = dispE x a b → Up 0 post (.ret (.agg (y.cells ++ [iv n, iv 0]))) H := fun y n H h => finv rfl (by rw [← hpost, dispA_ok hx, ← h]; exact ⟨rfl, rfl⟩) H
  have hc0 : x.chk = 0 := if_pos hx
  have hck0 := richeck_c x
  rw [hc0] at hck0
  obtain ⟨op, xa, xb, imm⟩ := x
  have e1 := immD_eq imm a b
  have hok := Decidable.em (Ins.ok ⟨op, xa, xb, immD imm a b⟩)
  have hck := richeck_c ⟨op, xa, xb, immD imm a b⟩
  have k0 : Ins.ok ⟨op, xa, xb, immD imm a b⟩ → Ins.chk ⟨op, xa, xb, immD imm a b⟩ = 0 := fun h => if_pos h
  have k1 : ¬ Ins.ok ⟨op, xa, xb, immD imm a b⟩ → Ins.chk ⟨op, xa, xb, immD imm a b⟩ = 20 := fun h => if_neg h
  have f2 := fin ⟨op, xa, xb, immD imm a b⟩ 2
  have f3 := fin ⟨op, xa, xb, imm⟩ 3
  by_cases h1 : op = 27 ∨ op = 28 ∨ op = 33 ∨ op = 76
  · have hf : ((⟨op, xa, xb, imm⟩ : Ins), (3 : Int)) = dispE ⟨op, xa, xb, imm⟩ a b := by rw [dispE, if_pos h1]
    rcases h1 with rfl | rfl | rfl | rfl
    all_goals
      simp only [go_sem,Nat.reduceAdd,Nat.reduceSub,Nat.reduceMul,Nat.reduceEqDiff,Nat.reduceLeDiff,Nat.reduceLT,↓reduceIte,Int.reduceToNat,reduceCtorEq,Int.reduceLT,Int.reduceLE,Int.reduceGT,Int.reduceGE,Int.reduceEq,Int.reduceNe,Int.reduceNeg,Int.reduceAdd,Int.reduceSub,Ins.av,Ins.cells]
      refine rK_use (enters_of Tryz.func53 rfl (by decide)) (ACalls.pure_use hck0 rfl rfl) ?_
      simp only [go_sem,Nat.reduceAdd,Nat.reduceSub,Nat.reduceMul,Nat.reduceEqDiff,Nat.reduceLeDiff,Nat.reduceLT,↓reduceIte,Int.reduceToNat,reduceCtorEq,Int.reduceLT,Int.reduceLE,Int.reduceGT,Int.reduceGE,Int.reduceEq,Int.reduceNe,Int.reduceNeg,Int.reduceAdd,Int.reduceSub]
      exact f3 _ hf
  by_cases h2 : 21 ≤ op ∧ op ≤ 25
  · have h2' : op = 21 ∨ op = 22 ∨ op = 23 ∨ op = 24 ∨ op = 25 := by omega
    rcases h2' with rfl | rfl | rfl | rfl | rfl
    all_goals
      simp only [go_sem,Nat.reduceAdd,Nat.reduceSub,Nat.reduceMul,Nat.reduceEqDiff,Nat.reduceLeDiff,Nat.reduceLT,↓reduceIte,Int.reduceToNat,reduceCtorEq,Int.reduceLT,Int.reduceLE,Int.reduceGT,Int.reduceGE,Int.reduceEq,Int.reduceNe,Int.reduceNeg,Int.reduceAdd,Int.reduceSub,Ins.av,Ins.cells]
      refine rK_use (enters_of Tryz.func53 rfl (by decide)) (ACalls.pure_use hck0 rfl rfl) ?_
      simp only [go_sem,Nat.reduceAdd,Nat.reduceSub,Nat.reduceMul,Nat.reduceEqDiff,Nat.reduceLeDiff,Nat.reduceLT,↓reduceIte,Int.reduceToNat,reduceCtorEq,Int.reduceLT,Int.reduceLE,Int.reduceGT,Int.reduceGE,Int.reduceEq,Int.reduceNe,Int.reduceNeg,Int.reduceAdd,Int.reduceSub,e1]
      refine rK_use (enters_of Tryz.func53 rfl (by decide)) (ACalls.pure_use hck rfl rfl) ?_
      rcases Decidable.em (immD imm a b = 0) with hz | hz
      · rcases hok with hk | hk
        · rw [k0 hk]
          simp only [go_sem,Nat.reduceAdd,Nat.reduceSub,Nat.reduceMul,Nat.reduceEqDiff,Nat.reduceLeDiff,Nat.reduceLT,↓reduceIte,Int.reduceToNat,reduceCtorEq,Int.reduceLT,Int.reduceLE,Int.reduceGT,Int.reduceGE,Int.reduceEq,Int.reduceNe,Int.reduceNeg,Int.reduceAdd,Int.reduceSub,eq_true hz]
          exact f3 _ (by rw [dispE, if_neg h1, if_pos ⟨by simp, by simp, hz⟩])
        · rw [k1 hk]
          simp only [go_sem,Nat.reduceAdd,Nat.reduceSub,Nat.reduceMul,Nat.reduceEqDiff,Nat.reduceLeDiff,Nat.reduceLT,↓reduceIte,Int.reduceToNat,reduceCtorEq,Int.reduceLT,Int.reduceLE,Int.reduceGT,Int.reduceGE,Int.reduceEq,Int.reduceNe,Int.reduceNeg,Int.reduceAdd,Int.reduceSub,eq_true hz]
          exact f3 _ (by rw [dispE, if_neg h1, if_pos ⟨by simp, by simp, hz⟩])
      · rcases hok with hk | hk
        · rw [k0 hk]
          simp only [go_sem,Nat.reduceAdd,Nat.reduceSub,Nat.reduceMul,Nat.reduceEqDiff,Nat.reduceLeDiff,Nat.reduceLT,↓reduceIte,Int.reduceToNat,reduceCtorEq,Int.reduceLT,Int.reduceLE,Int.reduceGT,Int.reduceGE,Int.reduceEq,Int.reduceNe,Int.reduceNeg,Int.reduceAdd,Int.reduceSub,eq_false hz]
          exact f2 _ (by rw [dispE, if_neg h1, if_neg (fun h => hz h.2.2), if_pos (by simp)]; exact (if_pos hk).symm)
        · rw [k1 hk]
          simp only [go_sem,Nat.reduceAdd,Nat.reduceSub,Nat.reduceMul,Nat.reduceEqDiff,Nat.reduceLeDiff,Nat.reduceLT,↓reduceIte,Int.reduceToNat,reduceCtorEq,Int.reduceLT,Int.reduceLE,Int.reduceGT,Int.reduceGE,Int.reduceEq,Int.reduceNe,Int.reduceNeg,Int.reduceAdd,Int.reduceSub,eq_false hz]
          exact f3 _ (by rw [dispE, if_neg h1, if_neg (fun h => hz h.2.2), if_pos (by simp)]; exact (if_neg hk).symm)
  by_cases h4 : op = 32
  · subst h4
    simp only [go_sem,Nat.reduceAdd,Nat.reduceSub,Nat.reduceMul,Nat.reduceEqDiff,Nat.reduceLeDiff,Nat.reduceLT,↓reduceIte,Int.reduceToNat,reduceCtorEq,Int.reduceLT,Int.reduceLE,Int.reduceGT,Int.reduceGE,Int.reduceEq,Int.reduceNe,Int.reduceNeg,Int.reduceAdd,Int.reduceSub,Ins.av,Ins.cells]
    refine rK_use (enters_of Tryz.func53 rfl (by decide)) (ACalls.pure_use hck0 rfl rfl) ?_
    simp only [go_sem,Nat.reduceAdd,Nat.reduceSub,Nat.reduceMul,Nat.reduceEqDiff,Nat.reduceLeDiff,Nat.reduceLT,↓reduceIte,Int.reduceToNat,reduceCtorEq,Int.reduceLT,Int.reduceLE,Int.reduceGT,Int.reduceGE,Int.reduceEq,Int.reduceNe,Int.reduceNeg,Int.reduceAdd,Int.reduceSub,e1]
    refine rK_use (enters_of Tryz.func53 rfl (by decide)) (ACalls.pure_use hck rfl rfl) ?_
    rcases hok with hk | hk
    · rw [k0 hk]
      rcases Decidable.em (immD imm a b = 0) with hz | hz
      · simp only [go_sem,Nat.reduceAdd,Nat.reduceSub,Nat.reduceMul,Nat.reduceEqDiff,Nat.reduceLeDiff,Nat.reduceLT,↓reduceIte,Int.reduceToNat,reduceCtorEq,Int.reduceLT,Int.reduceLE,Int.reduceGT,Int.reduceGE,Int.reduceEq,Int.reduceNe,Int.reduceNeg,Int.reduceAdd,Int.reduceSub,eq_true hz]
        exact f2 _ (by rw [dispE, if_neg h1, if_neg (fun h => absurd h.2.1 (by simp)), if_pos (by simp)]; exact (if_pos hk).symm)
      · simp only [go_sem,Nat.reduceAdd,Nat.reduceSub,Nat.reduceMul,Nat.reduceEqDiff,Nat.reduceLeDiff,Nat.reduceLT,↓reduceIte,Int.reduceToNat,reduceCtorEq,Int.reduceLT,Int.reduceLE,Int.reduceGT,Int.reduceGE,Int.reduceEq,Int.reduceNe,Int.reduceNeg,Int.reduceAdd,Int.reduceSub,eq_false hz]
        exact f2 _ (by rw [dispE, if_neg h1, if_neg (fun h => absurd h.2.1 (by simp)), if_pos (by simp)]; exact (if_pos hk).symm)
    · rw [k1 hk]
      simp only [go_sem,Nat.reduceAdd,Nat.reduceSub,Nat.reduceMul,Nat.reduceEqDiff,Nat.reduceLeDiff,Nat.reduceLT,↓reduceIte,Int.reduceToNat,reduceCtorEq,Int.reduceLT,Int.reduceLE,Int.reduceGT,Int.reduceGE,Int.reduceEq,Int.reduceNe,Int.reduceNeg,Int.reduceAdd,Int.reduceSub]
      exact f3 _ (by rw [dispE, if_neg h1, if_neg (fun h => absurd h.2.1 (by simp)), if_pos (by simp)]; exact (if_neg hk).symm)
  · have q1 : ¬ op = 27 := by omega
    have q2 : ¬ op = 28 := by omega
    have q3 : ¬ op = 33 := by omega
    have q4 : ¬ op = 76 := by omega
    have q5 : ¬ op = 21 := by omega
    have q6 : ¬ op = 22 := by omega
    have q7 : ¬ op = 23 := by omega
    have q8 : ¬ op = 24 := by omega
    have q9 : ¬ op = 25 := by omega
    simp only [go_sem,Nat.reduceAdd,Nat.reduceSub,Nat.reduceMul,Nat.reduceEqDiff,Nat.reduceLeDiff,Nat.reduceLT,↓reduceIte,Int.reduceToNat,reduceCtorEq,Int.reduceLT,Int.reduceLE,Int.reduceGT,Int.reduceGE,Int.reduceEq,Int.reduceNe,Int.reduceNeg,Int.reduceAdd,Int.reduceSub,Ins.av,Ins.cells]
    refine rK_use (enters_of Tryz.func53 rfl (by decide)) (ACalls.pure_use hck0 rfl rfl) ?_
    simp only [go_sem,Nat.reduceAdd,Nat.reduceSub,Nat.reduceMul,Nat.reduceEqDiff,Nat.reduceLeDiff,Nat.reduceLT,↓reduceIte,Int.reduceToNat,reduceCtorEq,Int.reduceLT,Int.reduceLE,Int.reduceGT,Int.reduceGE,Int.reduceEq,Int.reduceNe,Int.reduceNeg,Int.reduceAdd,Int.reduceSub,q1,q2,q3,q4,q5,q6,q7,q8,q9,h4]
    exact fin ⟨op, xa, xb, imm⟩ 1 _ (by rw [dispE, if_neg h1, if_neg (fun h => h2 ⟨h.1, h.2.1⟩), if_neg (fun h => h.elim h2 h4)])
end Go.Proofs.YtfiflailjbmlpaaGreatDoor
set_option maxRecDepth 100000
set_option linter.unusedVariables false
set_option linter.unusedSimpArgs false
namespace Go.Proofs.YtfiflailjbmlpaaGreatDoor
open Go.AM
def trE (x : Ins) (r : Rg) (t : Trp) : Eff := ⟨r, 0, [], t, x⟩
theorem trapped_c (x : Ins) (r : Rg) (t : Trp) : ACalls Tryz.prog 84 [x.av, r.av, .agg t.cells] [] (fun o H => o = .ret (trE x r t).av ∧ H = []) := by
  refine ACalls.up ?_
  refine ACalls.intro (cs := []) (n := 11) Tryz.func84 rfl rfl rfl (by kernel_rfl) rfl ?_
  generalize hpost : (fun (o : Out) (H : Heap) => o = Out.ret (trE x r t).av ∧ H = []) = post
  have finN : ∀ (e : Eff) H, e = trE x r t → e.data = [] → Up 0 post (.ret (.agg (e.cellsD dnil))) H := fun e H h hd => .le (.ret (.agg (leL_dnil e))) (LeH.refl _) (finv (v := .agg (e.cellsD (dby []))) (by simp [Eff.cellsD, AV.lt, ltL]) (by rw [← hpost, ← h]; exact ⟨by rw [Eff.av, Eff.cells, hd], rfl⟩) _)
  simp only [go_sem,Nat.reduceAdd,Nat.reduceSub,Nat.reduceMul,Nat.reduceEqDiff,Nat.reduceLeDiff,Nat.reduceLT,↓reduceIte,Int.reduceToNat,reduceCtorEq,Int.reduceLT,Int.reduceLE,Int.reduceGT,Int.reduceGE,Int.reduceEq,Int.reduceNe,Int.reduceNeg,Int.reduceAdd,Int.reduceSub,Rg.av,Rg.cells,Ins.av,Ins.cells,Trp.cells]
  exact finN (trE x r t) _ rfl rfl
theorem rFault_c (s : Sp) (hs : s.ok) (l : List Acc) (hl : l.length ≤ 2) (hsz : ∀ a ∈ l, a.size = 1 ∨ a.size = 8) :
    ACalls Tryz.prog 87 [s.av, .view false 3 (l.map Acc.row)] [] (fun o H => o = .ret (.agg (ffault s l).cells) ∧ H = []) := by
  refine ACalls.up ?_
  refine ACalls.intro (cs := []) (n := 37) Tryz.func87 rfl rfl rfl (by kernel_rfl) rfl ?_
  generalize hpost : (fun (o : Out) (H : Heap) => o = Out.ret (.agg (ffault s l).cells) ∧ H = []) = post
  have fin : ∀ f H, f = ffault s l → Up 0 post (.ret (.agg [iv f.kind, iv f.pos])) H := fun f H e => finv (by simp [AV.lt, ltL]) (by rw [← hpost, e]; exact ⟨rfl, rfl⟩) H
  simp only [go_sem,Nat.reduceAdd,Nat.reduceSub,Nat.reduceMul,Nat.reduceEqDiff,Nat.reduceLeDiff,Nat.reduceLT,↓reduceIte,Int.reduceToNat,reduceCtorEq,Int.reduceLT,Int.reduceLE,Int.reduceGT,Int.reduceGE,Int.reduceEq,Int.reduceNe,Int.reduceNeg,Int.reduceAdd,Int.reduceSub,Sp.av]
  refine loop_fam (fun i : Nat => ((((Ch.nil.put 1 (.view false 3 (l.map Acc.row))).put 2 (.ptr 0 0 0)).put 4 (.ptr 1 0 0)).put 5 (iv i))) (fun _ => [.rows 2 [[.view false 1 (s.perm.map r1), .view false 1 (s.byt.map rb)]], .rows 2 [[iv 0, iv 0]]]) (fun i => l.length - i) (fun i => i ≤ l.length ∧ ffault s l = ffault s (l.drop i)) 0 (by kernel_rfl) ⟨Nat.zero_le _, rfl⟩
    (Wk.slots' rfl (by simp [wkS, Ch.get])) ?_
  rintro i ⟨hi, hf⟩ K hK
  simp only [go_sem,Nat.reduceAdd,Nat.reduceSub,Nat.reduceMul,Nat.reduceEqDiff,Nat.reduceLeDiff,Nat.reduceLT,↓reduceIte,Int.reduceToNat,reduceCtorEq,Int.reduceLT,Int.reduceLE,Int.reduceGT,Int.reduceGE,Int.reduceEq,Int.reduceNe,Int.reduceNeg,Int.reduceAdd,Int.reduceSub,List.length_map]
  refine condD_dec (fun hc => ?_) (fun hc => ?_)
  · obtain ⟨a, ha⟩ := at_lt (l := l) (i := i) (by omega)
    have e1 : iw .i64 ((i : Int) + 1) = ((i + 1 : Nat) : Int) := by rw [iw64] <;> omega
    have g1 : (0 : Int) ≤ i ∧ (i : Int) < l.length := ⟨by omega, by omega⟩
    rw [ffault_drop ha] at hf
    obtain ⟨n, hn, hn8⟩ : ∃ n : Nat, a.size = n ∧ n ≤ 8 := by rcases hsz a (List.mem_of_getElem? ha) with h | h <;> exact ⟨a.size.toNat, by omega, by omega⟩
    rw [hn, Int.toNat_natCast] at hf
    have hrf := rfault_c s hs a.pos a.perm n (by omega) (by unfold Acc.perm; split <;> simp)
    generalize s.flt a.pos a.perm n 0 = f at hf hrf
    obtain ⟨cp, cs, cw⟩ := a
    simp only at hn
    subst hn
    cases cw <;>
    · simp only [go_sem,Nat.reduceAdd,Nat.reduceSub,Nat.reduceMul,Nat.reduceEqDiff,Nat.reduceLeDiff,Nat.reduceLT,↓reduceIte,Int.reduceToNat,reduceCtorEq,Int.reduceLT,Int.reduceLE,Int.reduceGT,Int.reduceGE,Int.reduceEq,Int.reduceNe,Int.reduceNeg,Int.reduceAdd,Int.reduceSub,ha,List.getElem?_map,List.length_map,g1,Acc.row]
      refine draw [.rd 0 1, .qu 0 1, .qu 0 1, .rd 0 1, .qu 0 1, .rd 0 1, .qu 0 1, .qu 0 1, .rd 0 1, .qu 0 1, .rd 0 1, .qu 0 1, .qu 0 1, .mn 0, .mn 1] (by kernel_rfl) (by kernel_rfl) ?_
      simp only [go_sem,Nat.reduceAdd,Nat.reduceSub,Nat.reduceMul,Nat.reduceEqDiff,Nat.reduceLeDiff,Nat.reduceLT,↓reduceIte,Int.reduceToNat,reduceCtorEq,Int.reduceLT,Int.reduceLE,Int.reduceGT,Int.reduceGE,Int.reduceEq,Int.reduceNe,Int.reduceNeg,Int.reduceAdd,Int.reduceSub,ha,List.getElem?_map,List.length_map,g1,Acc.row]
      refine y_call (enters_of Tryz.func83 rfl (by decide)) (fun _ => ACalls.pure_use (hrf) rfl rfl) ?_
      rcases Decidable.em (f.kind = 0) with h0 | h0
      · simp only [go_sem,Nat.reduceAdd,Nat.reduceSub,Nat.reduceMul,Nat.reduceEqDiff,Nat.reduceLeDiff,Nat.reduceLT,↓reduceIte,Int.reduceToNat,reduceCtorEq,Int.reduceLT,Int.reduceLE,Int.reduceGT,Int.reduceGE,Int.reduceEq,Int.reduceNe,Int.reduceNeg,Int.reduceAdd,Int.reduceSub,Flt.cells,e1,eq_true h0,ha,List.getElem?_map,List.length_map,g1,Acc.row]
        rw [if_pos h0] at hf
        exact hK (i + 1) _ _ ⟨by omega, hf⟩ (by omega) (Wk.drop (m := 2) (by simp [wkS, Ch.get]) (Nat.zero_le _) (by simp) (by simp [chLt, AV.lt]) rfl (by intro b hb; simp at hb; rcases hb with rfl | rfl <;> simp [Blk.lt, ltL, AV.lt]))
      · simp only [go_sem,Nat.reduceAdd,Nat.reduceSub,Nat.reduceMul,Nat.reduceEqDiff,Nat.reduceLeDiff,Nat.reduceLT,↓reduceIte,Int.reduceToNat,reduceCtorEq,Int.reduceLT,Int.reduceLE,Int.reduceGT,Int.reduceGE,Int.reduceEq,Int.reduceNe,Int.reduceNeg,Int.reduceAdd,Int.reduceSub,Flt.cells,eq_false h0,ha,List.getElem?_map,List.length_map,g1,Acc.row]
        rw [if_neg h0] at hf
        exact fin f _ hf.symm
  · simp only [go_sem,Nat.reduceAdd,Nat.reduceSub,Nat.reduceMul,Nat.reduceEqDiff,Nat.reduceLeDiff,Nat.reduceLT,↓reduceIte,Int.reduceToNat,reduceCtorEq,Int.reduceLT,Int.reduceLE,Int.reduceGT,Int.reduceGE,Int.reduceEq,Int.reduceNe,Int.reduceNeg,Int.reduceAdd,Int.reduceSub]
    have : i = l.length := by omega
    subst this
    rw [List.drop_length] at hf
    exact fin ⟨0, 0⟩ _ hf.symm
end Go.Proofs.YtfiflailjbmlpaaGreatDoor
set_option maxRecDepth 100000
set_option linter.unusedVariables false
set_option linter.unusedSimpArgs false
namespace Go.Proofs.YtfiflailjbmlpaaGreatDoor
open Go.AM
theorem shr8_pow (v : Int) : ∀ (k : Nat), shr8 k v = v.fdiv (2 ^ (8 * k))
  | 0 => by simp [shr8]
  | k + 1 => by
    have h1 : (0 : Int) ≤ 2 ^ (8 * k) := Int.le_of_lt (Int.pow_pos (by decide))
    have h2 : (0 : Int) ≤ 2 ^ (8 * (k + 1)) := Int.le_of_lt (Int.pow_pos (by decide))
    rw [shr8_succ, shr8_pow v k, Int.fdiv_eq_ediv_of_nonneg _ h1, Int.fdiv_eq_ediv_of_nonneg _ (by decide), Int.fdiv_eq_ediv_of_nonneg _ h2, Int.ediv_ediv_of_nonneg h1, show 8 * (k + 1) = 8 * k + 8 by omega, Int.pow_add]
    rfl
theorem Bytes_c (v : Int) (n : Nat) (hn : n ≤ 8) :
    ACalls Tryz.prog 116 [iv v, iv n] [] (fun o H => o = .ret (dby (stL n v)) ∧ H = []) := by
  refine ACalls.up ?_
  refine ACalls.intro (cs := []) (n := 21) Tryz.func116 rfl rfl rfl (by kernel_rfl) rfl ?_
  generalize hpost : (fun (o : Out) (H : Heap) => o = Out.ret (dby (stL n v)) ∧ H = []) = post
  simp only [go_sem,Nat.reduceAdd,Nat.reduceSub,Nat.reduceMul,Nat.reduceEqDiff,Nat.reduceLeDiff,Nat.reduceLT,↓reduceIte,Int.reduceToNat,reduceCtorEq,Int.reduceLT,Int.reduceLE,Int.reduceGT,Int.reduceGE,Int.reduceEq,Int.reduceNe,Int.reduceNeg,Int.reduceAdd,Int.reduceSub]
  refine loop_fam (fun k : Nat => ((((Ch.nil.put 0 (iv v)).put 1 (iv n)).put 5 (.sl 0 0 k none)).put 6 (iv k))) (fun k => [.rows 1 ((stL k v).map rb)]) (fun k => n - k) (fun k => k ≤ n) 0 (by kernel_rfl) (Nat.zero_le _) ?_ ?_
  · exact (Wk.slots (s' := ((((Ch.nil.put 0 (iv v)).put 1 (iv n)).put 5 (.view true 0 [])).put 6 (iv 0))) (by simp [wkS, Ch.get])).trans
      ((Wk.ghost (.rows 1 [])).trans (Wk.le (.cons _ (.cons _ (LeC.refl _) (.sl0 0 0 0)) (.refl _)) (LeH.refl _)))
  rintro k hk K hK
  simp only [go_sem,Nat.reduceAdd,Nat.reduceSub,Nat.reduceMul,Nat.reduceEqDiff,Nat.reduceLeDiff,Nat.reduceLT,↓reduceIte,Int.reduceToNat,reduceCtorEq,Int.reduceLT,Int.reduceLE,Int.reduceGT,Int.reduceGE,Int.reduceEq,Int.reduceNe,Int.reduceNeg,Int.reduceAdd,Int.reduceSub]
  refine condD_dec (fun hc => ?_) (fun hc => ?_)
  · have e1 : iw .i64 ((k : Int) + 1) = ((k + 1 : Nat) : Int) := by rw [iw64] <;> omega
    have e2 : iw .i64 (8 * (k : Int)) = ((8 * k : Nat) : Int) := by rw [iw64] <;> omega
    have hl := stL_len k v
    have e4 : ((stL k v).map rb).take k = (stL k v).map rb := List.take_of_length_le (by simp [hl])
    have e5 : k + 1 ≤ 68719476736 := by omega
    have e6 : k ≤ (stL k v).length := by omega
    have e7 : min (8 * k) 64 = 8 * k := by omega
    simp only [go_sem,Nat.reduceAdd,Nat.reduceSub,Nat.reduceMul,Nat.reduceEqDiff,Nat.reduceLeDiff,Nat.reduceLT,↓reduceIte,Int.reduceToNat,reduceCtorEq,Int.reduceLT,Int.reduceLE,Int.reduceGT,Int.reduceGE,Int.reduceEq,Int.reduceNe,Int.reduceNeg,Int.reduceAdd,Int.reduceSub,e1,e2,e4,e5,e6,e7,hl,List.length_map,iwb8,Int.natCast_nonneg]
    refine hK (k + 1) _ _ (by omega) (by omega) ?_
    rw [stL_succ, shr8_pow]
    exact Wk.push (A := []) (b := .rows 1 ((stL k v ++ [b8 (v.fdiv (2 ^ (8 * k)))]).map rb)) 2 rfl (by simp) (by simp) (by simp) (blt0 (rb_lt0 _)) (by simp) (by simp [wkP, Ch.get, AV.ren, pu_lt, pu_eq])
  · have : k = n := by omega
    subst this
    simp only [go_sem,Nat.reduceAdd,Nat.reduceSub,Nat.reduceMul,Nat.reduceEqDiff,Nat.reduceLeDiff,Nat.reduceLT,↓reduceIte,Int.reduceToNat,reduceCtorEq,Int.reduceLT,Int.reduceLE,Int.reduceGT,Int.reduceGE,Int.reduceEq,Int.reduceNe,Int.reduceNeg,Int.reduceAdd,Int.reduceSub]
    refine up_one 0 1 ((stL k v).map rb) rfl (rb_lt0 _) (by simp [Out.fzOk, AV.fzOk, fzOkL, stL_len]) ?_ ?_
    · simp [Out.fz, AV.fz, fzL, Out.lt, AV.lt, ltL]
    · have e4 : ((stL k v).map rb).take k = (stL k v).map rb := List.take_of_length_le (by simp [stL_len])
      rw [← hpost]
      simp [Out.fz, AV.fz, fzL, e4]
theorem iwI (n : Int) : I64 (iw .i64 n) := by unfold I64; rw [iwi64]; omega
theorem rdL_I64 : ∀ (b : List UInt8), I64 (rdL b)
  | [] => ⟨by decide, by decide⟩
  | c :: b => iwI _
theorem bOr_u64 (R c : Int) : bOr .u64 (iw .u64 (iw .u64 R * 256)) c = iw .u64 (bOr .i64 (iw .i64 (R * 256)) c) := by
  have hb : BitVec.ofInt 64 (iw .u64 (iw .u64 R * 256)) = BitVec.ofInt 64 (iw .i64 (R * 256)) := by
    apply BitVec.eq_of_toNat_eq
    have h1 := toNat_ofInt (iw .u64 (iw .u64 R * 256))
    have h2 := toNat_ofInt (iw .i64 (R * 256))
    rw [iwu64, iwu64] at h1
    rw [iwi64] at h2
    rw [iwu64, iwu64, iwi64]
    omega
  show iw .u64 (((BitVec.ofInt 64 (iw .u64 (iw .u64 R * 256)) ||| BitVec.ofInt 64 c).toNat : Nat) : Int) = iw .u64 (iw .i64 (((BitVec.ofInt 64 (iw .i64 (R * 256)) ||| BitVec.ofInt 64 c).toNat : Nat) : Int))
  rw [hb]
  generalize (((BitVec.ofInt 64 (iw .i64 (R * 256)) ||| BitVec.ofInt 64 c).toNat : Nat) : Int) = N
  rw [iwu64, iwu64, iwi64]
  omega
theorem iw_u_i (R : Int) (h : I64 R) : iw .i64 (iw .u64 R) = R := by
  rw [iw_u64]; unfold I64 at h; exact iw64 h.1 h.2
theorem read_c (s : Sp) (hs : s.ok) (pos : Int) (n : Nat) (hn : n ≤ 8) (h0 : 0 ≤ pos) (h1 : pos + n ≤ s.byt.length) :
    ACalls Tryz.prog 115 [s.av, iv pos, iv n] [] (fun o H => o = .ret (iv (rdL (s.sub pos n))) ∧ H = []) := by
  refine ACalls.up ?_
  refine ACalls.intro (cs := []) (n := 28) Tryz.func115 rfl rfl rfl (by kernel_rfl) rfl ?_
  generalize hpost : (fun (o : Out) (H : Heap) => o = Out.ret (iv (rdL (s.sub pos n))) ∧ H = []) = post
  have fin : ∀ v H, v = rdL (s.sub pos n) → Up 0 post (.ret (iv v)) H := fun v H e => finv rfl (by rw [← hpost, e]; exact ⟨rfl, rfl⟩) H
  have hl : s.byt.length ≤ 2048 := by have := hs.p32; have := hs.len; omega
  have e0 : iw .i64 ((n : Int) - 1) = (n : Int) - 1 := iw64 (by omega) (by omega)
  simp only [go_sem,Nat.reduceAdd,Nat.reduceSub,Nat.reduceMul,Nat.reduceEqDiff,Nat.reduceLeDiff,Nat.reduceLT,↓reduceIte,Int.reduceToNat,reduceCtorEq,Int.reduceLT,Int.reduceLE,Int.reduceGT,Int.reduceGE,Int.reduceEq,Int.reduceNe,Int.reduceNeg,Int.reduceAdd,Int.reduceSub,Sp.av,e0]
  generalize hb : s.sub pos n = b at *
  have hbl : b.length = n := by rw [← hb, Sp.sub]; simp; omega
  refine loop_fam (fun k : Nat => ((((Ch.nil.put 1 (iv pos)).put 3 (.ptr 0 0 0)).put 7 (.int .u64 (iw .u64 (rdL (b.drop k))))).put 8 (iv ((k : Int) - 1)))) (fun _ => [.rows 2 [[.view false 1 (s.perm.map r1), .view false 1 (s.byt.map rb)]]]) (fun k => k) (fun k => k ≤ n) n (by kernel_rfl) (Nat.le_refl _)
    (Wk.slots' rfl (by rw [← hbl, List.drop_length]; simp [wkS, Ch.get, rdL]; rfl)) ?_
  rintro k hk K hK
  simp only [go_sem,Nat.reduceAdd,Nat.reduceSub,Nat.reduceMul,Nat.reduceEqDiff,Nat.reduceLeDiff,Nat.reduceLT,↓reduceIte,Int.reduceToNat,reduceCtorEq,Int.reduceLT,Int.reduceLE,Int.reduceGT,Int.reduceGE,Int.reduceEq,Int.reduceNe,Int.reduceNeg,Int.reduceAdd,Int.reduceSub]
  refine condD_dec (fun hc => ?_) (fun hc => ?_)
  · obtain ⟨m, rfl⟩ : ∃ m, k = m + 1 := ⟨k - 1, by omega⟩
    obtain ⟨c, hc'⟩ := at_lt (l := b) (i := m) (by omega)
    have hcs : s.byt[(pos + m).toNat]? = some c := by
      rw [← hb, Sp.sub, List.getElem?_take, if_pos (by omega), List.getElem?_drop] at hc'
      rw [← hc']; congr 1; omega
    have e1 : (((m + 1 : Nat) : Int) - 1) = (m : Int) := by omega
    have e2 : iw .i64 (pos + (m : Int)) = pos + m := iw64 (by omega) (by omega)
    have e3 : iw .i64 ((m : Int) - 1) = (m : Int) - 1 := iw64 (by omega) (by omega)
    have g1 : 0 ≤ pos + (m : Int) ∧ pos + (m : Int) < s.byt.length := ⟨by omega, by omega⟩
    rw [e1]
    simp only [go_sem,Nat.reduceAdd,Nat.reduceSub,Nat.reduceMul,Nat.reduceEqDiff,Nat.reduceLeDiff,Nat.reduceLT,↓reduceIte,Int.reduceToNat,reduceCtorEq,Int.reduceLT,Int.reduceLE,Int.reduceGT,Int.reduceGE,Int.reduceEq,Int.reduceNe,Int.reduceNeg,Int.reduceAdd,Int.reduceSub,e2,e3,List.length_map,List.getElem?_map,hcs,g1]
    refine hK m _ _ (by omega) (by omega) (Wk.slots' rfl ?_)
    simp only [wkS, Ch.get, rdL_at hc']
    simp
    rw [show iw .u64 (c.toNat : Int) = c.toNat by rw [iwu64]; have := u8_lt c; have := u8_ge c; omega]
    exact bOr_u64 _ _
  · have : k = 0 := by omega
    subst this
    simp only [go_sem,Nat.reduceAdd,Nat.reduceSub,Nat.reduceMul,Nat.reduceEqDiff,Nat.reduceLeDiff,Nat.reduceLT,↓reduceIte,Int.reduceToNat,reduceCtorEq,Int.reduceLT,Int.reduceLE,Int.reduceGT,Int.reduceGE,Int.reduceEq,Int.reduceNe,Int.reduceNeg,Int.reduceAdd,Int.reduceSub,iw_u_i _ (rdL_I64 _)]
    exact fin _ _ rfl
end Go.Proofs.YtfiflailjbmlpaaGreatDoor
