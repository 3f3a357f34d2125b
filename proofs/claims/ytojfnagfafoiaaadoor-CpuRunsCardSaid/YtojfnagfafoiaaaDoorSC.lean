/- cpu: arithmetic. No condition. -/
import Derived.Test.YtojfnagfafoiaaaDoorSB
set_option maxRecDepth 100000
set_option linter.unusedVariables false
set_option linter.unusedSimpArgs false
namespace Go.Proofs.YtojfnagfafoiaaaDoor
open Go.AM
theorem iwu64 (x : Int) : iw .u64 x = x % 18446744073709551616 := by simp [iw, IntKind.wrap, IntKind.signed, IntKind.bits]
theorem iwi64 (x : Int) : iw .i64 x = (x + 9223372036854775808) % 18446744073709551616 - 9223372036854775808 := by
  simp only [iw, IntKind.wrap, IntKind.signed, IntKind.bits]
  simp
  omega
theorem iw_congr {x y : Int} (h : x % 18446744073709551616 = y % 18446744073709551616) : iw .i64 x = iw .i64 y := by
  rw [iwi64, iwi64]; omega
theorem iw_u64 (x : Int) : iw .i64 (iw .u64 x) = iw .i64 x := iw_congr (by rw [iwu64]; omega)
theorem iw_idem (x : Int) : iw .i64 (iw .i64 x) = iw .i64 x := (iw_i64 x).iw
theorem and63 (m : Nat) : m &&& 63 = m % 64 := Nat.and_two_pow_sub_one_eq_mod m 6
theorem toNat_ofInt (b : Int) : ((BitVec.ofInt 64 b).toNat : Int) = b % 18446744073709551616 := by
  rw [BitVec.toNat_ofInt]
  omega
theorem bAnd63 (b : Int) : bAnd .i64 b 63 = b % 64 := by
  unfold bAnd
  show iw .i64 (((BitVec.ofInt 64 b &&& BitVec.ofInt 64 63).toNat : Nat) : Int) = b % 64
  rw [BitVec.toNat_and, show (BitVec.ofInt 64 63).toNat = 63 from rfl, and63]
  have := toNat_ofInt b
  rw [iw64] <;> omega
theorem bAnd63u (b : Int) : bAnd .u64 (iw .u64 b) 63 = b % 64 := by
  unfold bAnd
  show iw .u64 (((BitVec.ofInt 64 (iw .u64 b) &&& BitVec.ofInt 64 63).toNat : Nat) : Int) = b % 64
  rw [BitVec.toNat_and, show (BitVec.ofInt 64 63).toNat = 63 from rfl, and63]
  have := toNat_ofInt (iw .u64 b)
  rw [iwu64] at this
  rw [iwu64, iwu64]
  omega
/-- The result of an operation; none: a division by zero. -/
def alu (op a b : Int) : Option Int :=
  if op = 5 then some (iw .i64 (a + b)) else if op = 6 then some (iw .i64 (a - b)) else if op = 7 then some (iw .i64 (a * b))
  else if op = 8 then (if b = 0 then none else some (iw .i64 (a.tdiv b)))
  else if op = 9 then (if b = 0 then none else some (a.tmod b))
  else if op = 10 then some (bAnd .i64 a b) else if op = 11 then some (bOr .i64 a b) else if op = 12 then some (bXor .i64 a b)
  else if op = 13 then some (iw .i64 (a * 2 ^ (b % 64).toNat)) else if op = 14 then some (iw .i64 ((iw .u64 a).fdiv (2 ^ (b % 64).toNat)))
  else some (a.fdiv (2 ^ (b % 64).toNat))
def aluV (o : Option Int) : AV := .tuple [iv (o.getD 0), .bool o.isSome]
theorem tmod_i64 {a b : Int} (ha : I64 a) : I64 (a.tmod b) := by
  have h1 := Int.natAbs_tmod a b
  have h2 : (a.tmod b).natAbs ≤ a.natAbs := by rw [h1]; exact Nat.mod_le _ _
  unfold I64 at *
  rcases Int.lt_or_le a 0 with h | h
  · have : a.tmod b ≤ 0 := by
      rw [← Int.neg_neg a, Int.neg_tmod]
      have := Int.tmod_nonneg b (show 0 ≤ -a by omega)
      omega
    omega
  · have := Int.tmod_nonneg b h
    omega
theorem mod_eq {a b : Int} (ha : I64 a) : iw .i64 (a - iw .i64 (iw .i64 (a.tdiv b) * b)) = a.tmod b := by
  have h : a.tmod b = a - a.tdiv b * b := by have := Int.tmod_def a b; rw [Int.mul_comm] at this; exact this
  rw [← (tmod_i64 (b := b) ha).iw]
  refine iw_congr ?_
  rw [h]
  have e1 : iw .i64 (iw .i64 (a.tdiv b) * b) % 18446744073709551616 = (a.tdiv b * b) % 18446744073709551616 := by
    have k1 : ∀ x : Int, iw .i64 x % 18446744073709551616 = x % 18446744073709551616 := fun x => by rw [iwi64]; omega
    rw [k1, Int.mul_emod, k1, ← Int.mul_emod]
  omega
theorem alu_c (op a b : Int) (ha : I64 a) : ACalls Tryd.prog 68 [iv op, iv a, iv b] [] (fun o H => o = .ret (aluV (alu op a b)) ∧ H = []) := by
  refine ACalls.up ?_
  refine ACalls.intro (cs := []) (n := 78) Tryd.func68 rfl rfl rfl (by kernel_rfl) rfl ?_
  generalize hpost : (fun (o : Out) (H : Heap) => o = Out.ret (aluV (alu op a b)) ∧ H = []) = post
  have fin : ∀ v ok H, .tuple [iv v, .bool ok] = aluV (alu op a b) → Up 0 post (.ret (.tuple [iv v, .bool ok])) H := fun v ok H e => finv rfl (by rw [← hpost, e]; exact ⟨rfl, rfl⟩) H
  have h64 : 0 ≤ b % 64 := by omega
  have hmin : min (b % 64).toNat 64 = (b % 64).toNat := Nat.min_eq_left (by omega)
  have hm1 : a.tdiv (-1) = 0 - a := by rw [Int.tdiv_neg, Int.tdiv_one]; omega
  rcases Decidable.em (b = 0) with hb | hb
  · subst hb
    have z1 : bAnd .i64 0 63 = 0 := by rw [bAnd63]; rfl
    simp only [go_sem,Nat.reduceAdd,Nat.reduceSub,Nat.reduceMul,Nat.reduceEqDiff,Nat.reduceLeDiff,Nat.reduceLT,↓reduceIte,Int.reduceToNat,reduceCtorEq,Int.reduceLT,Int.reduceLE,Int.reduceGT,Int.reduceGE,Int.reduceEq,Int.reduceNe,Int.reduceNeg,Int.reduceAdd,Int.reduceSub]
    repeat' (first | (refine gD_dec (fun hg => ?_) (fun hg => ?_) <;> simp only [go_sem,Nat.reduceAdd,Nat.reduceSub,Nat.reduceMul,Nat.reduceEqDiff,Nat.reduceLeDiff,Nat.reduceLT,↓reduceIte,Int.reduceToNat,reduceCtorEq,Int.reduceLT,Int.reduceLE,Int.reduceGT,Int.reduceGE,Int.reduceEq,Int.reduceNe,Int.reduceNeg,Int.reduceAdd,Int.reduceSub,hg,z1,IntKind.bits]) | (refine condD_dec (fun hg => ?_) (fun hg => ?_) <;> simp only [go_sem,Nat.reduceAdd,Nat.reduceSub,Nat.reduceMul,Nat.reduceEqDiff,Nat.reduceLeDiff,Nat.reduceLT,↓reduceIte,Int.reduceToNat,reduceCtorEq,Int.reduceLT,Int.reduceLE,Int.reduceGT,Int.reduceGE,Int.reduceEq,Int.reduceNe,Int.reduceNeg,Int.reduceAdd,Int.reduceSub,hg,z1,IntKind.bits]))
    all_goals exact fin _ _ _ (by simp [alu, aluV, *])
  · have me := mod_eq (b := b) ha
    simp only [go_sem,Nat.reduceAdd,Nat.reduceSub,Nat.reduceMul,Nat.reduceEqDiff,Nat.reduceLeDiff,Nat.reduceLT,↓reduceIte,Int.reduceToNat,reduceCtorEq,Int.reduceLT,Int.reduceLE,Int.reduceGT,Int.reduceGE,Int.reduceEq,Int.reduceNe,Int.reduceNeg,Int.reduceAdd,Int.reduceSub]
    repeat' (first | (refine gD_dec (fun hg => ?_) (fun hg => ?_) <;> simp only [go_sem,Nat.reduceAdd,Nat.reduceSub,Nat.reduceMul,Nat.reduceEqDiff,Nat.reduceLeDiff,Nat.reduceLT,↓reduceIte,Int.reduceToNat,reduceCtorEq,Int.reduceLT,Int.reduceLE,Int.reduceGT,Int.reduceGE,Int.reduceEq,Int.reduceNe,Int.reduceNeg,Int.reduceAdd,Int.reduceSub,hg,hb,bAnd63,h64,hmin,IntKind.bits]) | (refine condD_dec (fun hg => ?_) (fun hg => ?_) <;> simp only [go_sem,Nat.reduceAdd,Nat.reduceSub,Nat.reduceMul,Nat.reduceEqDiff,Nat.reduceLeDiff,Nat.reduceLT,↓reduceIte,Int.reduceToNat,reduceCtorEq,Int.reduceLT,Int.reduceLE,Int.reduceGT,Int.reduceGE,Int.reduceEq,Int.reduceNe,Int.reduceNeg,Int.reduceAdd,Int.reduceSub,hg,hb,bAnd63,h64,hmin,IntKind.bits]))
    all_goals first
      | (have h1 : b = -1 := Decidable.of_not_not (by assumption)
         subst h1
         rw [hm1] at me
         refine fin _ _ _ ?_
         first | (simp only [alu, aluV, if_pos, if_neg, reduceIte, *]; simp [*]; done) | (simp [alu, aluV, hm1, *]; done))
      | (refine fin _ _ _ ?_
         simp [alu, aluV, *])
theorem divide_c (op a b : Int) (ha : I64 a) (ho : op = 8 ∨ op = 9) : ACalls Tryd.prog 69 [iv op, iv a, iv b] [] (fun o H => o = .ret (aluV (alu op a b)) ∧ H = []) := by
  refine ACalls.up ?_
  refine ACalls.intro (cs := []) (n := 28) Tryd.func69 rfl rfl rfl (by kernel_rfl) rfl ?_
  generalize hpost : (fun (o : Out) (H : Heap) => o = Out.ret (aluV (alu op a b)) ∧ H = []) = post
  have fin : ∀ v ok H, .tuple [iv v, .bool ok] = aluV (alu op a b) → Up 0 post (.ret (.tuple [iv v, .bool ok])) H := fun v ok H e => finv rfl (by rw [← hpost, e]; exact ⟨rfl, rfl⟩) H
  have hm1 : a.tdiv (-1) = 0 - a := by rw [Int.tdiv_neg, Int.tdiv_one]; omega
  have hm2 : a.tmod (-1) = 0 := by rw [Int.tmod_neg, Int.tmod_one]
  rcases Decidable.em (b = 0) with hb | hb
  · subst hb
    simp only [go_sem,Nat.reduceAdd,Nat.reduceSub,Nat.reduceMul,Nat.reduceEqDiff,Nat.reduceLeDiff,Nat.reduceLT,↓reduceIte,Int.reduceToNat,reduceCtorEq,Int.reduceLT,Int.reduceLE,Int.reduceGT,Int.reduceGE,Int.reduceEq,Int.reduceNe,Int.reduceNeg,Int.reduceAdd,Int.reduceSub]
    rcases ho with rfl | rfl <;> exact fin _ _ _ (by simp [alu, aluV])
  · rcases ho with rfl | rfl
    · simp only [go_sem,Nat.reduceAdd,Nat.reduceSub,Nat.reduceMul,Nat.reduceEqDiff,Nat.reduceLeDiff,Nat.reduceLT,↓reduceIte,Int.reduceToNat,reduceCtorEq,Int.reduceLT,Int.reduceLE,Int.reduceGT,Int.reduceGE,Int.reduceEq,Int.reduceNe,Int.reduceNeg,Int.reduceAdd,Int.reduceSub,hb]
      repeat' (first | (refine gD_dec (fun hg => ?_) (fun hg => ?_) <;> simp only [go_sem,Nat.reduceAdd,Nat.reduceSub,Nat.reduceMul,Nat.reduceEqDiff,Nat.reduceLeDiff,Nat.reduceLT,↓reduceIte,Int.reduceToNat,reduceCtorEq,Int.reduceLT,Int.reduceLE,Int.reduceGT,Int.reduceGE,Int.reduceEq,Int.reduceNe,Int.reduceNeg,Int.reduceAdd,Int.reduceSub,hg,hb]) | (refine condD_dec (fun hg => ?_) (fun hg => ?_) <;> simp only [go_sem,Nat.reduceAdd,Nat.reduceSub,Nat.reduceMul,Nat.reduceEqDiff,Nat.reduceLeDiff,Nat.reduceLT,↓reduceIte,Int.reduceToNat,reduceCtorEq,Int.reduceLT,Int.reduceLE,Int.reduceGT,Int.reduceGE,Int.reduceEq,Int.reduceNe,Int.reduceNeg,Int.reduceAdd,Int.reduceSub,hg,hb]))
      all_goals first
        | exact fin _ _ _ (by simp [alu, aluV, *])
        | (have h1 : b = -1 := by assumption
           subst h1
           exact fin _ _ _ (by simp [alu, aluV, *]))
    · simp only [go_sem,Nat.reduceAdd,Nat.reduceSub,Nat.reduceMul,Nat.reduceEqDiff,Nat.reduceLeDiff,Nat.reduceLT,↓reduceIte,Int.reduceToNat,reduceCtorEq,Int.reduceLT,Int.reduceLE,Int.reduceGT,Int.reduceGE,Int.reduceEq,Int.reduceNe,Int.reduceNeg,Int.reduceAdd,Int.reduceSub,hb]
      repeat' (first | (refine gD_dec (fun hg => ?_) (fun hg => ?_) <;> simp only [go_sem,Nat.reduceAdd,Nat.reduceSub,Nat.reduceMul,Nat.reduceEqDiff,Nat.reduceLeDiff,Nat.reduceLT,↓reduceIte,Int.reduceToNat,reduceCtorEq,Int.reduceLT,Int.reduceLE,Int.reduceGT,Int.reduceGE,Int.reduceEq,Int.reduceNe,Int.reduceNeg,Int.reduceAdd,Int.reduceSub,hg,hb]) | (refine condD_dec (fun hg => ?_) (fun hg => ?_) <;> simp only [go_sem,Nat.reduceAdd,Nat.reduceSub,Nat.reduceMul,Nat.reduceEqDiff,Nat.reduceLeDiff,Nat.reduceLT,↓reduceIte,Int.reduceToNat,reduceCtorEq,Int.reduceLT,Int.reduceLE,Int.reduceGT,Int.reduceGE,Int.reduceEq,Int.reduceNe,Int.reduceNeg,Int.reduceAdd,Int.reduceSub,hg,hb]))
      all_goals first
        | exact fin _ _ _ (by simp [alu, aluV, *])
        | (have h1 : b = -1 := by assumption
           subst h1
           exact fin _ _ _ (by simp [alu, aluV, *]))
theorem shl_eq (a : Int) (n : Nat) : iw .i64 (iw .u64 (iw .u64 a * 2 ^ n)) = iw .i64 (a * 2 ^ n) := by
  rw [iw_u64]
  exact iw_congr (by rw [Int.mul_emod, iwu64, Int.emod_emod_of_dvd _ (by decide), ← Int.mul_emod])
theorem ralu_c (op a b : Int) (ha : I64 a) : ACalls Tryd.prog 29 [iv op, iv a, iv b] [] (fun o H => o = .ret (aluV (alu op a b)) ∧ H = []) := by
  refine ACalls.up ?_
  refine ACalls.intro (cs := []) (n := 69) Tryd.func29 rfl rfl rfl (by kernel_rfl) rfl ?_
  generalize hpost : (fun (o : Out) (H : Heap) => o = Out.ret (aluV (alu op a b)) ∧ H = []) = post
  have fin : ∀ v ok H, .tuple [iv v, .bool ok] = aluV (alu op a b) → Up 0 post (.ret (.tuple [iv v, .bool ok])) H := fun v ok H e => finv rfl (by rw [← hpost, e]; exact ⟨rfl, rfl⟩) H
  have h64 : 0 ≤ b % 64 := by omega
  have hmin : min (b % 64).toNat 64 = (b % 64).toNat := Nat.min_eq_left (by omega)
  simp only [go_sem,Nat.reduceAdd,Nat.reduceSub,Nat.reduceMul,Nat.reduceEqDiff,Nat.reduceLeDiff,Nat.reduceLT,↓reduceIte,Int.reduceToNat,reduceCtorEq,Int.reduceLT,Int.reduceLE,Int.reduceGT,Int.reduceGE,Int.reduceEq,Int.reduceNe,Int.reduceNeg,Int.reduceAdd,Int.reduceSub,bAnd63u]
  repeat' (first | (refine gD_dec (fun hg => ?_) (fun hg => ?_) <;> simp only [go_sem,Nat.reduceAdd,Nat.reduceSub,Nat.reduceMul,Nat.reduceEqDiff,Nat.reduceLeDiff,Nat.reduceLT,↓reduceIte,Int.reduceToNat,reduceCtorEq,Int.reduceLT,Int.reduceLE,Int.reduceGT,Int.reduceGE,Int.reduceEq,Int.reduceNe,Int.reduceNeg,Int.reduceAdd,Int.reduceSub,hg,bAnd63u,h64,hmin,IntKind.bits,shl_eq,aluV]) | (refine condD_dec (fun hg => ?_) (fun hg => ?_) <;> simp only [go_sem,Nat.reduceAdd,Nat.reduceSub,Nat.reduceMul,Nat.reduceEqDiff,Nat.reduceLeDiff,Nat.reduceLT,↓reduceIte,Int.reduceToNat,reduceCtorEq,Int.reduceLT,Int.reduceLE,Int.reduceGT,Int.reduceGE,Int.reduceEq,Int.reduceNe,Int.reduceNeg,Int.reduceAdd,Int.reduceSub,hg,bAnd63u,h64,hmin,IntKind.bits,shl_eq,aluV]) | (refine rK_use (enters_of Tryd.func69 rfl (by decide)) (ACalls.pure_use (divide_c 8 a b ha (.inl rfl)) rfl rfl) ?_; simp only [go_sem,Nat.reduceAdd,Nat.reduceSub,Nat.reduceMul,Nat.reduceEqDiff,Nat.reduceLeDiff,Nat.reduceLT,↓reduceIte,Int.reduceToNat,reduceCtorEq,Int.reduceLT,Int.reduceLE,Int.reduceGT,Int.reduceGE,Int.reduceEq,Int.reduceNe,Int.reduceNeg,Int.reduceAdd,Int.reduceSub,bAnd63u,h64,hmin,IntKind.bits,shl_eq,aluV]) | (refine rK_use (enters_of Tryd.func69 rfl (by decide)) (ACalls.pure_use (divide_c 9 a b ha (.inr rfl)) rfl rfl) ?_; simp only [go_sem,Nat.reduceAdd,Nat.reduceSub,Nat.reduceMul,Nat.reduceEqDiff,Nat.reduceLeDiff,Nat.reduceLT,↓reduceIte,Int.reduceToNat,reduceCtorEq,Int.reduceLT,Int.reduceLE,Int.reduceGT,Int.reduceGE,Int.reduceEq,Int.reduceNe,Int.reduceNeg,Int.reduceAdd,Int.reduceSub,bAnd63u,h64,hmin,IntKind.bits,shl_eq,aluV]) | (refine gD_bool (fun hg => ?_) (fun hg => ?_) <;> simp only [go_sem,Nat.reduceAdd,Nat.reduceSub,Nat.reduceMul,Nat.reduceEqDiff,Nat.reduceLeDiff,Nat.reduceLT,↓reduceIte,Int.reduceToNat,reduceCtorEq,Int.reduceLT,Int.reduceLE,Int.reduceGT,Int.reduceGE,Int.reduceEq,Int.reduceNe,Int.reduceNeg,Int.reduceAdd,Int.reduceSub,hg,bAnd63u,h64,hmin,IntKind.bits,shl_eq,aluV]) | (refine condD_bool (fun hg => ?_) (fun hg => ?_) <;> simp only [go_sem,Nat.reduceAdd,Nat.reduceSub,Nat.reduceMul,Nat.reduceEqDiff,Nat.reduceLeDiff,Nat.reduceLT,↓reduceIte,Int.reduceToNat,reduceCtorEq,Int.reduceLT,Int.reduceLE,Int.reduceGT,Int.reduceGE,Int.reduceEq,Int.reduceNe,Int.reduceNeg,Int.reduceAdd,Int.reduceSub,hg,bAnd63u,h64,hmin,IntKind.bits,shl_eq,aluV]))
  all_goals exact fin _ _ _ (by simp [alu, aluV, *])
def isAlu (op : Int) : Bool := decide (5 ≤ op) && decide (op ≤ 15)
theorem isAlu_c (op : Int) : ACalls Tryd.prog 28 [iv op] [] (fun o H => o = .ret (.bool (isAlu op)) ∧ H = []) := by
  refine ACalls.up ?_
  refine ACalls.intro (cs := []) (n := 9) Tryd.func28 rfl rfl rfl (by kernel_rfl) rfl ?_
  generalize hpost : (fun (o : Out) (H : Heap) => o = Out.ret (.bool (isAlu op)) ∧ H = []) = post
  have fin : ∀ b H, b = isAlu op → Up 0 post (.ret (.bool b)) H := fun n H e => finv rfl (by rw [← hpost, e]; exact ⟨rfl, rfl⟩) H
  simp only [go_sem,Nat.reduceAdd,Nat.reduceSub,Nat.reduceMul,Nat.reduceEqDiff,Nat.reduceLeDiff,Nat.reduceLT,↓reduceIte,Int.reduceToNat,reduceCtorEq,Int.reduceLT,Int.reduceLE,Int.reduceGT,Int.reduceGE,Int.reduceEq,Int.reduceNe,Int.reduceNeg,Int.reduceAdd,Int.reduceSub]
  repeat' (first | (refine gD_dec (fun hg => ?_) (fun hg => ?_) <;> simp only [go_sem,Nat.reduceAdd,Nat.reduceSub,Nat.reduceMul,Nat.reduceEqDiff,Nat.reduceLeDiff,Nat.reduceLT,↓reduceIte,Int.reduceToNat,reduceCtorEq,Int.reduceLT,Int.reduceLE,Int.reduceGT,Int.reduceGE,Int.reduceEq,Int.reduceNe,Int.reduceNeg,Int.reduceAdd,Int.reduceSub,hg]) | (refine condD_dec (fun hg => ?_) (fun hg => ?_) <;> simp only [go_sem,Nat.reduceAdd,Nat.reduceSub,Nat.reduceMul,Nat.reduceEqDiff,Nat.reduceLeDiff,Nat.reduceLT,↓reduceIte,Int.reduceToNat,reduceCtorEq,Int.reduceLT,Int.reduceLE,Int.reduceGT,Int.reduceGE,Int.reduceEq,Int.reduceNe,Int.reduceNeg,Int.reduceAdd,Int.reduceSub,hg]))
  all_goals exact fin _ _ (by simp [isAlu, *])
theorem Alu_c (op a b : Int) (ha : I64 a) (h : isAlu op = true) : ACalls Tryd.prog 27 [iv op, iv a, iv b] [] (fun o H => o = .ret (.tuple [iv ((alu op a b).getD 0), .bool (alu op a b).isSome, iv 0]) ∧ H = []) := by
  refine ACalls.up ?_
  refine ACalls.intro (cs := []) (n := 26) Tryd.func27 rfl rfl rfl (by kernel_rfl) rfl ?_
  generalize hpost : (fun (o : Out) (H : Heap) => o = Out.ret (.tuple [iv ((alu op a b).getD 0), .bool (alu op a b).isSome, iv 0]) ∧ H = []) = post
  simp only [isAlu, Bool.and_eq_true, decide_eq_true_eq] at h
  have h1 : ¬ op < 5 := by omega
  have h2 : ¬ (15 < op) := by omega
  simp only [go_sem,Nat.reduceAdd,Nat.reduceSub,Nat.reduceMul,Nat.reduceEqDiff,Nat.reduceLeDiff,Nat.reduceLT,↓reduceIte,Int.reduceToNat,reduceCtorEq,Int.reduceLT,Int.reduceLE,Int.reduceGT,Int.reduceGE,Int.reduceEq,Int.reduceNe,Int.reduceNeg,Int.reduceAdd,Int.reduceSub,h1,h2]
  refine rK_use (enters_of Tryd.func68 rfl (by decide)) (ACalls.pure_use (alu_c op a b ha) rfl rfl) ?_
  simp only [go_sem,Nat.reduceAdd,Nat.reduceSub,Nat.reduceMul,Nat.reduceEqDiff,Nat.reduceLeDiff,Nat.reduceLT,↓reduceIte,Int.reduceToNat,reduceCtorEq,Int.reduceLT,Int.reduceLE,Int.reduceGT,Int.reduceGE,Int.reduceEq,Int.reduceNe,Int.reduceNeg,Int.reduceAdd,Int.reduceSub,aluV]
  exact finv rfl (by rw [← hpost]; exact ⟨rfl, rfl⟩) _
theorem Alu_n (op a b : Int) (h : isAlu op = false) : ACalls Tryd.prog 27 [iv op, iv a, iv b] [] (fun o H => o = .ret (.tuple [iv 0, .bool false, iv 1]) ∧ H = []) := by
  refine ACalls.up ?_
  refine ACalls.intro (cs := []) (n := 26) Tryd.func27 rfl rfl rfl (by kernel_rfl) rfl ?_
  generalize hpost : (fun (o : Out) (H : Heap) => o = Out.ret (.tuple [iv 0, .bool false, iv 1]) ∧ H = []) = post
  have h' : op < 5 ∨ 15 < op := by simp [isAlu] at h; omega
  simp only [go_sem,Nat.reduceAdd,Nat.reduceSub,Nat.reduceMul,Nat.reduceEqDiff,Nat.reduceLeDiff,Nat.reduceLT,↓reduceIte,Int.reduceToNat,reduceCtorEq,Int.reduceLT,Int.reduceLE,Int.reduceGT,Int.reduceGE,Int.reduceEq,Int.reduceNe,Int.reduceNeg,Int.reduceAdd,Int.reduceSub]
  repeat' (first | (refine gD_dec (fun hg => ?_) (fun hg => ?_) <;> simp only [go_sem,Nat.reduceAdd,Nat.reduceSub,Nat.reduceMul,Nat.reduceEqDiff,Nat.reduceLeDiff,Nat.reduceLT,↓reduceIte,Int.reduceToNat,reduceCtorEq,Int.reduceLT,Int.reduceLE,Int.reduceGT,Int.reduceGE,Int.reduceEq,Int.reduceNe,Int.reduceNeg,Int.reduceAdd,Int.reduceSub,hg]) | (refine condD_dec (fun hg => ?_) (fun hg => ?_) <;> simp only [go_sem,Nat.reduceAdd,Nat.reduceSub,Nat.reduceMul,Nat.reduceEqDiff,Nat.reduceLeDiff,Nat.reduceLT,↓reduceIte,Int.reduceToNat,reduceCtorEq,Int.reduceLT,Int.reduceLE,Int.reduceGT,Int.reduceGE,Int.reduceEq,Int.reduceNe,Int.reduceNeg,Int.reduceAdd,Int.reduceSub,hg]))
  all_goals first | (exact finv rfl (by rw [← hpost]; exact ⟨rfl, rfl⟩) _) | (exfalso; omega)
end Go.Proofs.YtojfnagfafoiaaaDoor

set_option maxRecDepth 100000
set_option linter.unusedVariables false
set_option linter.unusedSimpArgs false
namespace Go.Proofs.YtojfnagfafoiaaaDoor
open Go.AM
structure Rg where
  r0 : Int
  r1 : Int
  r2 : Int
  r3 : Int
  r4 : Int
  r5 : Int
  r6 : Int
  r7 : Int
  pc : Int
def Rg.cells (r : Rg) : List AV := [iv r.r0, iv r.r1, iv r.r2, iv r.r3, iv r.r4, iv r.r5, iv r.r6, iv r.r7, iv r.pc]
def Rg.av (r : Rg) : AV := .agg r.cells
def Rg.list (r : Rg) : List Int := [r.r0, r.r1, r.r2, r.r3, r.r4, r.r5, r.r6, r.r7]
def Rg.get (r : Rg) (i : Int) : Int := (r.list[i.toNat]?).getD 0
def Rg.set (r : Rg) (i v : Int) : Rg :=
  ⟨if i = 0 then v else r.r0, if i = 1 then v else r.r1, if i = 2 then v else r.r2, if i = 3 then v else r.r3, if i = 4 then v else r.r4, if i = 5 then v else r.r5, if i = 6 then v else r.r6, if i = 7 then v else r.r7, r.pc⟩
structure Rg.wf (r : Rg) : Prop where
  reg : ∀ x ∈ r.list, I64 x
  pc : I64 r.pc
theorem Rg.wf.get {r : Rg} (h : r.wf) (i : Int) : I64 (r.get i) := by
  unfold Rg.get
  cases hi : r.list[i.toNat]? with
  | none => simp [I64]
  | some x => exact h.reg x (List.mem_of_getElem? hi)
theorem cases8 {n : Int} (h0 : 0 ≤ n) (h7 : n ≤ 7) : n = 0 ∨ n = 1 ∨ n = 2 ∨ n = 3 ∨ n = 4 ∨ n = 5 ∨ n = 6 ∨ n = 7 := by omega
/-- A register's cell. -/
theorem Rg.at (r : Rg) {n : Int} (h0 : 0 ≤ n) (h7 : n ≤ 7) : [iv r.r0, iv r.r1, iv r.r2, iv r.r3, iv r.r4, iv r.r5, iv r.r6, iv r.r7, iv r.pc][n.toNat]? = some (iv (r.get n)) := by
  rcases cases8 h0 h7 with rfl | rfl | rfl | rfl | rfl | rfl | rfl | rfl <;> rfl
def taken (x : Ins) (r : Rg) : Bool :=
  if x.op = 21 then decide (r.get x.a = r.get x.b) else if x.op = 22 then !decide (r.get x.a = r.get x.b) else if x.op = 23 then decide (r.get x.a < r.get x.b) else if x.op = 24 then decide (r.get x.b ≤ r.get x.a)
  else decide (25 ≤ x.op) && decide (x.op ≤ 29)
theorem taken_c (x : Ins) (hx : x.ok) (r : Rg) : ACalls Tryd.prog 73 [x.av, r.av] [] (fun o H => o = .ret (.bool (taken x r)) ∧ H = []) := by
  refine ACalls.up ?_
  refine ACalls.intro (cs := []) (n := 47) Tryd.func73 rfl rfl rfl (by kernel_rfl) rfl ?_
  generalize hpost : (fun (o : Out) (H : Heap) => o = Out.ret (.bool (taken x r)) ∧ H = []) = post
  have fin : ∀ b H, b = taken x r → Up 0 post (.ret (.bool b)) H := fun n H e => finv rfl (by rw [← hpost, e]; exact ⟨rfl, rfl⟩) H
  have ha : 0 ≤ x.a ∧ x.a < 8 := ⟨hx.a0, by have := hx.a7; omega⟩
  have hb : 0 ≤ x.b ∧ x.b < 8 := ⟨hx.b0, by have := hx.b7; omega⟩
  have ha' := r.at hx.a0 hx.a7
  have hb' := r.at hx.b0 hx.b7
  simp only [go_sem,Nat.reduceAdd,Nat.reduceSub,Nat.reduceMul,Nat.reduceEqDiff,Nat.reduceLeDiff,Nat.reduceLT,↓reduceIte,Int.reduceToNat,reduceCtorEq,Int.reduceLT,Int.reduceLE,Int.reduceGT,Int.reduceGE,Int.reduceEq,Int.reduceNe,Int.reduceNeg,Int.reduceAdd,Int.reduceSub,Ins.av,Ins.cells,Rg.av,Rg.cells]
  refine draw [.qu 0 0, .qu 0 0, .qu 0 0, .qu 0 0, .qu 0 0, .qu 0 0, .qu 0 0, .qu 0 0, .qu 0 0, .qu 0 0, .qu 0 0, .qu 0 0] (by kernel_rfl) (by kernel_rfl) ?_
  simp only [go_sem,Nat.reduceAdd,Nat.reduceSub,Nat.reduceMul,Nat.reduceEqDiff,Nat.reduceLeDiff,Nat.reduceLT,↓reduceIte,Int.reduceToNat,reduceCtorEq,Int.reduceLT,Int.reduceLE,Int.reduceGT,Int.reduceGE,Int.reduceEq,Int.reduceNe,Int.reduceNeg,Int.reduceAdd,Int.reduceSub,Ins.cells,Rg.cells,ha,hb,ha',hb']
  repeat' (first | (refine gD_dec (fun hg => ?_) (fun hg => ?_) <;> simp only [go_sem,Nat.reduceAdd,Nat.reduceSub,Nat.reduceMul,Nat.reduceEqDiff,Nat.reduceLeDiff,Nat.reduceLT,↓reduceIte,Int.reduceToNat,reduceCtorEq,Int.reduceLT,Int.reduceLE,Int.reduceGT,Int.reduceGE,Int.reduceEq,Int.reduceNe,Int.reduceNeg,Int.reduceAdd,Int.reduceSub,hg]) | (refine condD_dec (fun hg => ?_) (fun hg => ?_) <;> simp only [go_sem,Nat.reduceAdd,Nat.reduceSub,Nat.reduceMul,Nat.reduceEqDiff,Nat.reduceLeDiff,Nat.reduceLT,↓reduceIte,Int.reduceToNat,reduceCtorEq,Int.reduceLT,Int.reduceLE,Int.reduceGT,Int.reduceGE,Int.reduceEq,Int.reduceNe,Int.reduceNeg,Int.reduceAdd,Int.reduceSub,hg]))
  all_goals first
    | (refine fin _ _ ?_
       simp [taken, *]
       done)
    | (refine fin _ _ ?_
       have : ¬ (25 ≤ x.op ∧ x.op ≤ 29) := by omega
       simp [taken, *]
       omega)
structure Acc where
  pos : Int
  size : Int
  write : Bool
def Acc.row (a : Acc) : List AV := [iv a.pos, iv a.size, .bool a.write]
theorem Acc.row_lt (l : List Acc) : ∀ row ∈ l.map Acc.row, ltL 0 row = true := rows_lt (fun _ => rfl) l
def foot (x : Ins) (r : Rg) : List Acc :=
  if x.op = 17 then [⟨iw .i64 (r.get x.b + x.imm), 1, false⟩] else if x.op = 18 then [⟨iw .i64 (r.get x.b + x.imm), 8, false⟩]
  else if x.op = 19 then [⟨iw .i64 (r.get x.b + x.imm), 1, true⟩] else if x.op = 20 then [⟨iw .i64 (r.get x.b + x.imm), 8, true⟩]
  else if x.op = 27 ∨ x.op = 28 ∨ x.op = 30 then [⟨iw .i64 (r.r7 - 8), 8, true⟩]
  else if x.op = 29 ∨ x.op = 31 then [⟨r.r7, 8, false⟩]
  else if x.op = 34 then [⟨iw .i64 (r.get x.b + x.imm), 8, false⟩, ⟨iw .i64 (r.get x.b + x.imm), 8, true⟩]
  else []
theorem foot_len (x : Ins) (r : Rg) : (foot x r).length ≤ 2 := by unfold foot; repeat' split
                                                                  all_goals simp
/-- The end, with the slice of a new block that is told by a list. -/
theorem up_list {α : Type} {post : CQ} {H : Heap} (f : α → List AV) (sz : Nat) (l : List α) (r : Nat) (n : Nat) (cap : Option Nat) (hr : H[r]? = some (.rows sz (l.map f))) (hn : n = l.length) (hp : ∀ a, ltL 0 (f a) = true) (h : post (.ret (.view false sz (l.map f))) []) : Up 0 post (.ret (.sl r 0 n cap)) H := by
  subst hn
  have e4 : (l.map f).take l.length = l.map f := List.take_of_length_le (by simp)
  refine up_one r sz (l.map f) hr (rows_lt hp l) (by simp [Out.fzOk, AV.fzOk]) ?_ ?_
  · simp [Out.fz, AV.fz, Out.lt, AV.lt]
  · simpa [Out.fz, AV.fz, e4] using h
theorem up_nil {post : CQ} {H : Heap} (f : Bool) (z sz : Nat) (h : post (.ret (.view false sz [])) []) : Up 0 post (.ret (.view f z [])) H :=
  .le (.ret (.nil f false z sz (by simp))) (LeH.refl _) (finv rfl h _)
theorem footprint_c (x : Ins) (hx : x.ok) (r : Rg) : ACalls Tryd.prog 74 [x.av, r.av] [] (fun o H => o = .ret (.view false 3 ((foot x r).map Acc.row)) ∧ H = []) := by
  refine ACalls.up ?_
  refine ACalls.intro (cs := []) (n := 61) Tryd.func74 rfl rfl rfl (by kernel_rfl) rfl ?_
  generalize hpost : (fun (o : Out) (H : Heap) => o = Out.ret (.view false 3 ((foot x r).map Acc.row)) ∧ H = []) = post
  have fin : ∀ l H k n cap, l = foot x r → H[k]? = some (.rows 3 (l.map Acc.row)) → n = l.length → Up 0 post (.ret (.sl k 0 n cap)) H := fun l H k n cap e h hn => up_list Acc.row 3 l k n cap h hn (fun _ => rfl) (by rw [← hpost, e]; exact ⟨rfl, rfl⟩)
  have fin0 : ∀ f z H, foot x r = [] → Up 0 post (.ret (.view f z [])) H := fun f z H e => up_nil f z 3 (by rw [← hpost, e]; exact ⟨rfl, rfl⟩)
  have hb : 0 ≤ x.b ∧ x.b < 8 := ⟨hx.b0, by have := hx.b7; omega⟩
  have hb' := r.at hx.b0 hx.b7
  simp only [go_sem,Nat.reduceAdd,Nat.reduceSub,Nat.reduceMul,Nat.reduceEqDiff,Nat.reduceLeDiff,Nat.reduceLT,↓reduceIte,Int.reduceToNat,reduceCtorEq,Int.reduceLT,Int.reduceLE,Int.reduceGT,Int.reduceGE,Int.reduceEq,Int.reduceNe,Int.reduceNeg,Int.reduceAdd,Int.reduceSub,Ins.av,Ins.cells,Rg.av,Rg.cells]
  refine draw [.qu 0 0, .qu 0 0, .qu 0 0, .qu 0 0, .qu 0 0, .qu 0 0, .qu 0 0, .qu 0 0, .qu 0 0, .qu 0 0, .qu 0 0, .qu 0 0, .qu 0 0] (by kernel_rfl) (by kernel_rfl) ?_
  simp only [go_sem,Nat.reduceAdd,Nat.reduceSub,Nat.reduceMul,Nat.reduceEqDiff,Nat.reduceLeDiff,Nat.reduceLT,↓reduceIte,Int.reduceToNat,reduceCtorEq,Int.reduceLT,Int.reduceLE,Int.reduceGT,Int.reduceGE,Int.reduceEq,Int.reduceNe,Int.reduceNeg,Int.reduceAdd,Int.reduceSub,Ins.cells,Rg.cells,hb,hb']
  repeat' (first | (refine gD_dec (fun hg => ?_) (fun hg => ?_) <;> simp only [go_sem,Nat.reduceAdd,Nat.reduceSub,Nat.reduceMul,Nat.reduceEqDiff,Nat.reduceLeDiff,Nat.reduceLT,↓reduceIte,Int.reduceToNat,reduceCtorEq,Int.reduceLT,Int.reduceLE,Int.reduceGT,Int.reduceGE,Int.reduceEq,Int.reduceNe,Int.reduceNeg,Int.reduceAdd,Int.reduceSub,hg]) | (refine condD_dec (fun hg => ?_) (fun hg => ?_) <;> simp only [go_sem,Nat.reduceAdd,Nat.reduceSub,Nat.reduceMul,Nat.reduceEqDiff,Nat.reduceLeDiff,Nat.reduceLT,↓reduceIte,Int.reduceToNat,reduceCtorEq,Int.reduceLT,Int.reduceLE,Int.reduceGT,Int.reduceGE,Int.reduceEq,Int.reduceNe,Int.reduceNeg,Int.reduceAdd,Int.reduceSub,hg]))
  all_goals first
    | (refine fin (foot x r) _ _ _ _ rfl ?_ ?_ <;> simp [foot, Acc.row, *]
       done)
    | (refine fin0 _ _ _ ?_
       simp [foot, *])
theorem swap_imm {x : Ins} (hx : x.ok) (h : x.op = 34) : x.imm = 0 := by
  have := hx.im
  rw [h, show kform 34 = 1 from rfl] at this
  simpa [fits, bytesOf] using this
theorem rfootprint_c (x : Ins) (hx : x.ok) (r : Rg) (hr : r.wf) : ACalls Tryd.prog 34 [x.av, r.av] [] (fun o H => o = .ret (.view false 3 ((foot x r).map Acc.row)) ∧ H = []) := by
  refine ACalls.up ?_
  refine ACalls.intro (cs := []) (n := 88) Tryd.func34 rfl rfl rfl (by kernel_rfl) rfl ?_
  generalize hpost : (fun (o : Out) (H : Heap) => o = Out.ret (.view false 3 ((foot x r).map Acc.row)) ∧ H = []) = post
  have fin : ∀ l H k n cap, l = foot x r → H[k]? = some (.rows 3 (l.map Acc.row)) → n = l.length → Up 0 post (.ret (.sl k 0 n cap)) H := fun l H k n cap e h hn => up_list Acc.row 3 l k n cap h hn (fun _ => rfl) (by rw [← hpost, e]; exact ⟨rfl, rfl⟩)
  have fin0 : ∀ f z H, foot x r = [] → Up 0 post (.ret (.view f z [])) H := fun f z H e => up_nil f z 3 (by rw [← hpost, e]; exact ⟨rfl, rfl⟩)
  have hb : 0 ≤ x.b ∧ x.b < 8 := ⟨hx.b0, by have := hx.b7; omega⟩
  have hb' := r.at hx.b0 hx.b7
  simp only [go_sem,Nat.reduceAdd,Nat.reduceSub,Nat.reduceMul,Nat.reduceEqDiff,Nat.reduceLeDiff,Nat.reduceLT,↓reduceIte,Int.reduceToNat,reduceCtorEq,Int.reduceLT,Int.reduceLE,Int.reduceGT,Int.reduceGE,Int.reduceEq,Int.reduceNe,Int.reduceNeg,Int.reduceAdd,Int.reduceSub,Ins.av,Ins.cells,Rg.av,Rg.cells]
  have e0 := (hr.get x.b).iw
  rcases Decidable.em (x.op = 17) with h | h17
  · simp only [go_sem,Nat.reduceAdd,Nat.reduceSub,Nat.reduceMul,Nat.reduceEqDiff,Nat.reduceLeDiff,Nat.reduceLT,↓reduceIte,Int.reduceToNat,reduceCtorEq,Int.reduceLT,Int.reduceLE,Int.reduceGT,Int.reduceGE,Int.reduceEq,Int.reduceNe,Int.reduceNeg,Int.reduceAdd,Int.reduceSub,h]
    refine draw [.qu 0 0, .qu 0 0, .qu 0 0, .qu 0 0, .qu 0 0, .qu 0 0, .qu 0 0, .qu 0 0, .qu 0 0, .mn 0, .qu 1 1] (by kernel_rfl) (by kernel_rfl) ?_
    simp only [go_sem,Nat.reduceAdd,Nat.reduceSub,Nat.reduceMul,Nat.reduceEqDiff,Nat.reduceLeDiff,Nat.reduceLT,↓reduceIte,Int.reduceToNat,reduceCtorEq,Int.reduceLT,Int.reduceLE,Int.reduceGT,Int.reduceGE,Int.reduceEq,Int.reduceNe,Int.reduceNeg,Int.reduceAdd,Int.reduceSub,h,Ins.cells,Rg.cells,hb,hb']
    refine fin (foot x r) _ _ _ _ rfl ?_ ?_ <;> simp [foot, Acc.row, h]
  rcases Decidable.em (x.op = 18) with h | h18
  · simp only [go_sem,Nat.reduceAdd,Nat.reduceSub,Nat.reduceMul,Nat.reduceEqDiff,Nat.reduceLeDiff,Nat.reduceLT,↓reduceIte,Int.reduceToNat,reduceCtorEq,Int.reduceLT,Int.reduceLE,Int.reduceGT,Int.reduceGE,Int.reduceEq,Int.reduceNe,Int.reduceNeg,Int.reduceAdd,Int.reduceSub,h17,h]
    refine draw [.qu 0 0, .qu 0 0, .qu 0 0, .qu 0 0, .qu 0 0, .qu 0 0, .qu 0 0, .qu 0 0, .qu 0 0, .mn 0, .qu 1 1] (by kernel_rfl) (by kernel_rfl) ?_
    simp only [go_sem,Nat.reduceAdd,Nat.reduceSub,Nat.reduceMul,Nat.reduceEqDiff,Nat.reduceLeDiff,Nat.reduceLT,↓reduceIte,Int.reduceToNat,reduceCtorEq,Int.reduceLT,Int.reduceLE,Int.reduceGT,Int.reduceGE,Int.reduceEq,Int.reduceNe,Int.reduceNeg,Int.reduceAdd,Int.reduceSub,h,Ins.cells,Rg.cells,hb,hb']
    refine fin (foot x r) _ _ _ _ rfl ?_ ?_ <;> simp [foot, Acc.row, h]
  rcases Decidable.em (x.op = 19) with h | h19
  · simp only [go_sem,Nat.reduceAdd,Nat.reduceSub,Nat.reduceMul,Nat.reduceEqDiff,Nat.reduceLeDiff,Nat.reduceLT,↓reduceIte,Int.reduceToNat,reduceCtorEq,Int.reduceLT,Int.reduceLE,Int.reduceGT,Int.reduceGE,Int.reduceEq,Int.reduceNe,Int.reduceNeg,Int.reduceAdd,Int.reduceSub,h17,h18,h]
    refine draw [.qu 0 0, .qu 0 0, .qu 0 0, .qu 0 0, .qu 0 0, .qu 0 0, .qu 0 0, .qu 0 0, .qu 0 0, .mn 0, .qu 1 1] (by kernel_rfl) (by kernel_rfl) ?_
    simp only [go_sem,Nat.reduceAdd,Nat.reduceSub,Nat.reduceMul,Nat.reduceEqDiff,Nat.reduceLeDiff,Nat.reduceLT,↓reduceIte,Int.reduceToNat,reduceCtorEq,Int.reduceLT,Int.reduceLE,Int.reduceGT,Int.reduceGE,Int.reduceEq,Int.reduceNe,Int.reduceNeg,Int.reduceAdd,Int.reduceSub,h,Ins.cells,Rg.cells,hb,hb']
    refine fin (foot x r) _ _ _ _ rfl ?_ ?_ <;> simp [foot, Acc.row, h]
  rcases Decidable.em (x.op = 20) with h | h20
  · simp only [go_sem,Nat.reduceAdd,Nat.reduceSub,Nat.reduceMul,Nat.reduceEqDiff,Nat.reduceLeDiff,Nat.reduceLT,↓reduceIte,Int.reduceToNat,reduceCtorEq,Int.reduceLT,Int.reduceLE,Int.reduceGT,Int.reduceGE,Int.reduceEq,Int.reduceNe,Int.reduceNeg,Int.reduceAdd,Int.reduceSub,h17,h18,h19,h]
    refine draw [.qu 0 0, .qu 0 0, .qu 0 0, .qu 0 0, .qu 0 0, .qu 0 0, .qu 0 0, .qu 0 0, .qu 0 0, .mn 0, .qu 1 1] (by kernel_rfl) (by kernel_rfl) ?_
    simp only [go_sem,Nat.reduceAdd,Nat.reduceSub,Nat.reduceMul,Nat.reduceEqDiff,Nat.reduceLeDiff,Nat.reduceLT,↓reduceIte,Int.reduceToNat,reduceCtorEq,Int.reduceLT,Int.reduceLE,Int.reduceGT,Int.reduceGE,Int.reduceEq,Int.reduceNe,Int.reduceNeg,Int.reduceAdd,Int.reduceSub,h,Ins.cells,Rg.cells,hb,hb']
    refine fin (foot x r) _ _ _ _ rfl ?_ ?_ <;> simp [foot, Acc.row, h]
  rcases Decidable.em (x.op = 34) with h | h34
  · have hi := swap_imm hx h
    simp only [go_sem,Nat.reduceAdd,Nat.reduceSub,Nat.reduceMul,Nat.reduceEqDiff,Nat.reduceLeDiff,Nat.reduceLT,↓reduceIte,Int.reduceToNat,reduceCtorEq,Int.reduceLT,Int.reduceLE,Int.reduceGT,Int.reduceGE,Int.reduceEq,Int.reduceNe,Int.reduceNeg,Int.reduceAdd,Int.reduceSub,h17,h18,h19,h20,h]
    refine draw [.qu 0 0, .qu 0 0, .qu 0 0, .qu 0 0, .qu 0 0, .qu 0 0, .qu 0 0, .qu 0 0, .qu 0 0, .qu 0 0, .qu 0 0, .qu 0 0, .mn 0, .qu 1 1] (by kernel_rfl) (by kernel_rfl) ?_
    simp only [go_sem,Nat.reduceAdd,Nat.reduceSub,Nat.reduceMul,Nat.reduceEqDiff,Nat.reduceLeDiff,Nat.reduceLT,↓reduceIte,Int.reduceToNat,reduceCtorEq,Int.reduceLT,Int.reduceLE,Int.reduceGT,Int.reduceGE,Int.reduceEq,Int.reduceNe,Int.reduceNeg,Int.reduceAdd,Int.reduceSub,Ins.cells,Rg.cells,hb,hb']
    refine fin (foot x r) _ _ _ _ rfl ?_ ?_ <;> simp [foot, Acc.row, h, hi, e0]
  · simp only [go_sem,Nat.reduceAdd,Nat.reduceSub,Nat.reduceMul,Nat.reduceEqDiff,Nat.reduceLeDiff,Nat.reduceLT,↓reduceIte,Int.reduceToNat,reduceCtorEq,Int.reduceLT,Int.reduceLE,Int.reduceGT,Int.reduceGE,Int.reduceEq,Int.reduceNe,Int.reduceNeg,Int.reduceAdd,Int.reduceSub,h17,h18,h19,h20]
    repeat' (first | (refine gD_dec (fun hg => ?_) (fun hg => ?_) <;> simp only [go_sem,Nat.reduceAdd,Nat.reduceSub,Nat.reduceMul,Nat.reduceEqDiff,Nat.reduceLeDiff,Nat.reduceLT,↓reduceIte,Int.reduceToNat,reduceCtorEq,Int.reduceLT,Int.reduceLE,Int.reduceGT,Int.reduceGE,Int.reduceEq,Int.reduceNe,Int.reduceNeg,Int.reduceAdd,Int.reduceSub,hg,h34]) | (refine condD_dec (fun hg => ?_) (fun hg => ?_) <;> simp only [go_sem,Nat.reduceAdd,Nat.reduceSub,Nat.reduceMul,Nat.reduceEqDiff,Nat.reduceLeDiff,Nat.reduceLT,↓reduceIte,Int.reduceToNat,reduceCtorEq,Int.reduceLT,Int.reduceLE,Int.reduceGT,Int.reduceGE,Int.reduceEq,Int.reduceNe,Int.reduceNeg,Int.reduceAdd,Int.reduceSub,hg,h34]))
    all_goals first
      | (refine fin (foot x r) _ _ _ _ rfl ?_ ?_ <;> simp [foot, Acc.row, *]
         done)
      | (refine fin0 _ _ _ ?_
         simp [foot, *])
theorem holds_c (x : Ins) (hx : x.ok) (r : Rg) : ACalls Tryd.prog 36 [x.av, r.av] [] (fun o H => o = .ret (.bool (taken x r)) ∧ H = []) := by
  refine ACalls.up ?_
  refine ACalls.intro (cs := []) (n := 65) Tryd.func36 rfl rfl rfl (by kernel_rfl) rfl ?_
  generalize hpost : (fun (o : Out) (H : Heap) => o = Out.ret (.bool (taken x r)) ∧ H = []) = post
  have fin : ∀ b H, b = taken x r → Up 0 post (.ret (.bool b)) H := fun n H e => finv rfl (by rw [← hpost, e]; exact ⟨rfl, rfl⟩) H
  have ha : 0 ≤ x.a ∧ x.a < 8 := ⟨hx.a0, by have := hx.a7; omega⟩
  have hb : 0 ≤ x.b ∧ x.b < 8 := ⟨hx.b0, by have := hx.b7; omega⟩
  have ha' := r.at hx.a0 hx.a7
  have hb' := r.at hx.b0 hx.b7
  simp only [go_sem,Nat.reduceAdd,Nat.reduceSub,Nat.reduceMul,Nat.reduceEqDiff,Nat.reduceLeDiff,Nat.reduceLT,↓reduceIte,Int.reduceToNat,reduceCtorEq,Int.reduceLT,Int.reduceLE,Int.reduceGT,Int.reduceGE,Int.reduceEq,Int.reduceNe,Int.reduceNeg,Int.reduceAdd,Int.reduceSub,Ins.av,Ins.cells,Rg.av,Rg.cells]
  rcases Decidable.em (x.op = 21) with h | h21
  · simp only [go_sem,Nat.reduceAdd,Nat.reduceSub,Nat.reduceMul,Nat.reduceEqDiff,Nat.reduceLeDiff,Nat.reduceLT,↓reduceIte,Int.reduceToNat,reduceCtorEq,Int.reduceLT,Int.reduceLE,Int.reduceGT,Int.reduceGE,Int.reduceEq,Int.reduceNe,Int.reduceNeg,Int.reduceAdd,Int.reduceSub,h]
    refine draw [.qu 0 0, .qu 0 0, .qu 0 0, .qu 0 0, .qu 0 0, .qu 0 0, .qu 0 0, .qu 0 0, .qu 0 0, .qu 0 0, .qu 0 0, .qu 0 0] (by kernel_rfl) (by kernel_rfl) ?_
    simp only [go_sem,Nat.reduceAdd,Nat.reduceSub,Nat.reduceMul,Nat.reduceEqDiff,Nat.reduceLeDiff,Nat.reduceLT,↓reduceIte,Int.reduceToNat,reduceCtorEq,Int.reduceLT,Int.reduceLE,Int.reduceGT,Int.reduceGE,Int.reduceEq,Int.reduceNe,Int.reduceNeg,Int.reduceAdd,Int.reduceSub,h,Ins.cells,Rg.cells,ha,hb,ha',hb']
    exact fin _ _ (by simp [taken, h])
  rcases Decidable.em (x.op = 22) with h | h22
  · simp only [go_sem,Nat.reduceAdd,Nat.reduceSub,Nat.reduceMul,Nat.reduceEqDiff,Nat.reduceLeDiff,Nat.reduceLT,↓reduceIte,Int.reduceToNat,reduceCtorEq,Int.reduceLT,Int.reduceLE,Int.reduceGT,Int.reduceGE,Int.reduceEq,Int.reduceNe,Int.reduceNeg,Int.reduceAdd,Int.reduceSub,h21,h]
    refine draw [.qu 0 0, .qu 0 0, .qu 0 0, .qu 0 0, .qu 0 0, .qu 0 0, .qu 0 0, .qu 0 0, .qu 0 0, .qu 0 0, .qu 0 0, .qu 0 0] (by kernel_rfl) (by kernel_rfl) ?_
    simp only [go_sem,Nat.reduceAdd,Nat.reduceSub,Nat.reduceMul,Nat.reduceEqDiff,Nat.reduceLeDiff,Nat.reduceLT,↓reduceIte,Int.reduceToNat,reduceCtorEq,Int.reduceLT,Int.reduceLE,Int.reduceGT,Int.reduceGE,Int.reduceEq,Int.reduceNe,Int.reduceNeg,Int.reduceAdd,Int.reduceSub,h,Ins.cells,Rg.cells,ha,hb,ha',hb']
    exact fin _ _ (by simp [taken, h])
  rcases Decidable.em (x.op = 23) with h | h23
  · simp only [go_sem,Nat.reduceAdd,Nat.reduceSub,Nat.reduceMul,Nat.reduceEqDiff,Nat.reduceLeDiff,Nat.reduceLT,↓reduceIte,Int.reduceToNat,reduceCtorEq,Int.reduceLT,Int.reduceLE,Int.reduceGT,Int.reduceGE,Int.reduceEq,Int.reduceNe,Int.reduceNeg,Int.reduceAdd,Int.reduceSub,h21,h22,h]
    refine draw [.qu 0 0, .qu 0 0, .qu 0 0, .qu 0 0, .qu 0 0, .qu 0 0, .qu 0 0, .qu 0 0, .qu 0 0, .qu 0 0, .qu 0 0, .qu 0 0] (by kernel_rfl) (by kernel_rfl) ?_
    simp only [go_sem,Nat.reduceAdd,Nat.reduceSub,Nat.reduceMul,Nat.reduceEqDiff,Nat.reduceLeDiff,Nat.reduceLT,↓reduceIte,Int.reduceToNat,reduceCtorEq,Int.reduceLT,Int.reduceLE,Int.reduceGT,Int.reduceGE,Int.reduceEq,Int.reduceNe,Int.reduceNeg,Int.reduceAdd,Int.reduceSub,h,Ins.cells,Rg.cells,ha,hb,ha',hb']
    exact fin _ _ (by simp [taken, h])
  rcases Decidable.em (x.op = 24) with h | h24
  · simp only [go_sem,Nat.reduceAdd,Nat.reduceSub,Nat.reduceMul,Nat.reduceEqDiff,Nat.reduceLeDiff,Nat.reduceLT,↓reduceIte,Int.reduceToNat,reduceCtorEq,Int.reduceLT,Int.reduceLE,Int.reduceGT,Int.reduceGE,Int.reduceEq,Int.reduceNe,Int.reduceNeg,Int.reduceAdd,Int.reduceSub,h21,h22,h23,h]
    refine draw [.qu 0 0, .qu 0 0, .qu 0 0, .qu 0 0, .qu 0 0, .qu 0 0, .qu 0 0, .qu 0 0, .qu 0 0, .qu 0 0, .qu 0 0, .qu 0 0] (by kernel_rfl) (by kernel_rfl) ?_
    simp only [go_sem,Nat.reduceAdd,Nat.reduceSub,Nat.reduceMul,Nat.reduceEqDiff,Nat.reduceLeDiff,Nat.reduceLT,↓reduceIte,Int.reduceToNat,reduceCtorEq,Int.reduceLT,Int.reduceLE,Int.reduceGT,Int.reduceGE,Int.reduceEq,Int.reduceNe,Int.reduceNeg,Int.reduceAdd,Int.reduceSub,h,Ins.cells,Rg.cells,ha,hb,ha',hb']
    exact fin _ _ (by simp [taken, h])
  · repeat' (first | (refine gD_dec (fun hg => ?_) (fun hg => ?_) <;> simp only [go_sem,Nat.reduceAdd,Nat.reduceSub,Nat.reduceMul,Nat.reduceEqDiff,Nat.reduceLeDiff,Nat.reduceLT,↓reduceIte,Int.reduceToNat,reduceCtorEq,Int.reduceLT,Int.reduceLE,Int.reduceGT,Int.reduceGE,Int.reduceEq,Int.reduceNe,Int.reduceNeg,Int.reduceAdd,Int.reduceSub,hg,h21,h22,h23,h24]) | (refine condD_dec (fun hg => ?_) (fun hg => ?_) <;> simp only [go_sem,Nat.reduceAdd,Nat.reduceSub,Nat.reduceMul,Nat.reduceEqDiff,Nat.reduceLeDiff,Nat.reduceLT,↓reduceIte,Int.reduceToNat,reduceCtorEq,Int.reduceLT,Int.reduceLE,Int.reduceGT,Int.reduceGE,Int.reduceEq,Int.reduceNe,Int.reduceNeg,Int.reduceAdd,Int.reduceSub,hg,h21,h22,h23,h24]))
    all_goals first
      | (refine fin _ _ ?_
         simp [taken, *]
         done)
      | (refine fin _ _ ?_
         have : ¬ (25 ≤ x.op ∧ x.op ≤ 29) := by omega
         simp [taken, *]
         omega)
theorem next_c (x : Ins) (hx : x.ok) (pc : Int) : ACalls Tryd.prog 31 [x.av, iv pc] [] (fun o H => o = .ret (.tuple [iv (iw .i64 (pc + x.len)), iv 0]) ∧ H = []) := by
  refine ACalls.up ?_
  refine ACalls.intro (cs := []) (n := 19) Tryd.func31 rfl rfl rfl (by kernel_rfl) rfl ?_
  generalize hpost : (fun (o : Out) (H : Heap) => o = Out.ret (.tuple [iv (iw .i64 (pc + x.len)), iv 0]) ∧ H = []) = post
  simp only [go_sem,Nat.reduceAdd,Nat.reduceSub,Nat.reduceMul,Nat.reduceEqDiff,Nat.reduceLeDiff,Nat.reduceLT,↓reduceIte,Int.reduceToNat,reduceCtorEq,Int.reduceLT,Int.reduceLE,Int.reduceGT,Int.reduceGE,Int.reduceEq,Int.reduceNe,Int.reduceNeg,Int.reduceAdd,Int.reduceSub,Ins.av,Ins.cells]
  refine rK_use (enters_of Tryd.func24 rfl (by decide)) (ACalls.pure_use (ilen_c x hx) rfl rfl) ?_
  have hl := flen_le (kform x.op)
  have e1 : iw .i64 (x.len : Int) = x.len := iw64 (by unfold Ins.len; omega) (by unfold Ins.len; omega)
  simp only [go_sem,Nat.reduceAdd,Nat.reduceSub,Nat.reduceMul,Nat.reduceEqDiff,Nat.reduceLeDiff,Nat.reduceLT,↓reduceIte,Int.reduceToNat,reduceCtorEq,Int.reduceLT,Int.reduceLE,Int.reduceGT,Int.reduceGE,Int.reduceEq,Int.reduceNe,Int.reduceNeg,Int.reduceAdd,Int.reduceSub,e1]
  exact finv rfl (by rw [← hpost]; exact ⟨rfl, rfl⟩) _
theorem next_n (x : Ins) (hx : ¬ x.ok) (pc : Int) : ACalls Tryd.prog 31 [x.av, iv pc] [] (fun o H => o = .ret (.tuple [iv 0, iv 20]) ∧ H = []) := by
  refine ACalls.up ?_
  refine ACalls.intro (cs := []) (n := 19) Tryd.func31 rfl rfl rfl (by kernel_rfl) rfl ?_
  generalize hpost : (fun (o : Out) (H : Heap) => o = Out.ret (.tuple [iv 0, iv 20]) ∧ H = []) = post
  simp only [go_sem,Nat.reduceAdd,Nat.reduceSub,Nat.reduceMul,Nat.reduceEqDiff,Nat.reduceLeDiff,Nat.reduceLT,↓reduceIte,Int.reduceToNat,reduceCtorEq,Int.reduceLT,Int.reduceLE,Int.reduceGT,Int.reduceGE,Int.reduceEq,Int.reduceNe,Int.reduceNeg,Int.reduceAdd,Int.reduceSub,Ins.av,Ins.cells]
  refine rK_use (enters_of Tryd.func24 rfl (by decide)) (ACalls.pure_use (ilen_n x hx) rfl rfl) ?_
  simp only [go_sem,Nat.reduceAdd,Nat.reduceSub,Nat.reduceMul,Nat.reduceEqDiff,Nat.reduceLeDiff,Nat.reduceLT,↓reduceIte,Int.reduceToNat,reduceCtorEq,Int.reduceLT,Int.reduceLE,Int.reduceGT,Int.reduceGE,Int.reduceEq,Int.reduceNe,Int.reduceNeg,Int.reduceAdd,Int.reduceSub]
  exact finv rfl (by rw [← hpost]; exact ⟨rfl, rfl⟩) _
theorem Taken_c (x : Ins) (r : Rg) : ACalls Tryd.prog 32 [x.av, r.av] [] (fun o H => o = .ret (.tuple [.bool (decide x.ok && taken x r), iv x.chk]) ∧ H = []) := by
  refine ACalls.up ?_
  refine ACalls.intro (cs := []) (n := 15) Tryd.func32 rfl rfl rfl (by kernel_rfl) rfl ?_
  generalize hpost : (fun (o : Out) (H : Heap) => o = Out.ret (.tuple [.bool (decide x.ok && taken x r), iv x.chk]) ∧ H = []) = post
  simp only [go_sem,Nat.reduceAdd,Nat.reduceSub,Nat.reduceMul,Nat.reduceEqDiff,Nat.reduceLeDiff,Nat.reduceLT,↓reduceIte,Int.reduceToNat,reduceCtorEq,Int.reduceLT,Int.reduceLE,Int.reduceGT,Int.reduceGE,Int.reduceEq,Int.reduceNe,Int.reduceNeg,Int.reduceAdd,Int.reduceSub,Ins.av,Ins.cells,Rg.av,Rg.cells]
  refine rK_use (enters_of Tryd.func51 rfl (by decide)) (ACalls.pure_use (icheck_c x) rfl rfl) ?_
  rcases Decidable.em x.ok with hx | hx
  · rw [Ins.chk, if_pos hx]
    simp only [go_sem,Nat.reduceAdd,Nat.reduceSub,Nat.reduceMul,Nat.reduceEqDiff,Nat.reduceLeDiff,Nat.reduceLT,↓reduceIte,Int.reduceToNat,reduceCtorEq,Int.reduceLT,Int.reduceLE,Int.reduceGT,Int.reduceGE,Int.reduceEq,Int.reduceNe,Int.reduceNeg,Int.reduceAdd,Int.reduceSub]
    refine rK_use (enters_of Tryd.func73 rfl (by decide)) (ACalls.pure_use (taken_c x hx r) rfl rfl) ?_
    simp only [go_sem,Nat.reduceAdd,Nat.reduceSub,Nat.reduceMul,Nat.reduceEqDiff,Nat.reduceLeDiff,Nat.reduceLT,↓reduceIte,Int.reduceToNat,reduceCtorEq,Int.reduceLT,Int.reduceLE,Int.reduceGT,Int.reduceGE,Int.reduceEq,Int.reduceNe,Int.reduceNeg,Int.reduceAdd,Int.reduceSub]
    exact finv rfl (by rw [← hpost]; exact ⟨by simp [hx, Ins.chk], rfl⟩) _
  · rw [Ins.chk, if_neg hx]
    simp only [go_sem,Nat.reduceAdd,Nat.reduceSub,Nat.reduceMul,Nat.reduceEqDiff,Nat.reduceLeDiff,Nat.reduceLT,↓reduceIte,Int.reduceToNat,reduceCtorEq,Int.reduceLT,Int.reduceLE,Int.reduceGT,Int.reduceGE,Int.reduceEq,Int.reduceNe,Int.reduceNeg,Int.reduceAdd,Int.reduceSub]
    exact finv rfl (by rw [← hpost]; exact ⟨by simp [hx, Ins.chk], rfl⟩) _
theorem Footprint_c (x : Ins) (hx : x.ok) (r : Rg) : ACalls Tryd.prog 33 [x.av, r.av] [] (fun o H => o = .ret (.tuple [.view false 3 ((foot x r).map Acc.row), iv 0]) ∧ H = []) := by
  refine ACalls.up ?_
  refine ACalls.intro (cs := []) (n := 15) Tryd.func33 rfl rfl rfl (by kernel_rfl) rfl ?_
  generalize hpost : (fun (o : Out) (H : Heap) => o = Out.ret (.tuple [.view false 3 ((foot x r).map Acc.row), iv 0]) ∧ H = []) = post
  simp only [go_sem,Nat.reduceAdd,Nat.reduceSub,Nat.reduceMul,Nat.reduceEqDiff,Nat.reduceLeDiff,Nat.reduceLT,↓reduceIte,Int.reduceToNat,reduceCtorEq,Int.reduceLT,Int.reduceLE,Int.reduceGT,Int.reduceGE,Int.reduceEq,Int.reduceNe,Int.reduceNeg,Int.reduceAdd,Int.reduceSub,Ins.av,Ins.cells,Rg.av,Rg.cells]
  refine rK_use (enters_of Tryd.func51 rfl (by decide)) (ACalls.pure_use (icheck_c x) rfl rfl) ?_
  rw [Ins.chk, if_pos hx]
  simp only [go_sem,Nat.reduceAdd,Nat.reduceSub,Nat.reduceMul,Nat.reduceEqDiff,Nat.reduceLeDiff,Nat.reduceLT,↓reduceIte,Int.reduceToNat,reduceCtorEq,Int.reduceLT,Int.reduceLE,Int.reduceGT,Int.reduceGE,Int.reduceEq,Int.reduceNe,Int.reduceNeg,Int.reduceAdd,Int.reduceSub]
  refine rK_use (enters_of Tryd.func74 rfl (by decide)) (ACalls.pure_use (footprint_c x hx r) rfl (by simp [AV.lt])) ?_
  simp only [go_sem,Nat.reduceAdd,Nat.reduceSub,Nat.reduceMul,Nat.reduceEqDiff,Nat.reduceLeDiff,Nat.reduceLT,↓reduceIte,Int.reduceToNat,reduceCtorEq,Int.reduceLT,Int.reduceLE,Int.reduceGT,Int.reduceGE,Int.reduceEq,Int.reduceNe,Int.reduceNeg,Int.reduceAdd,Int.reduceSub]
  exact finv (by simp [AV.lt, ltL]) (by rw [← hpost]; exact ⟨rfl, rfl⟩) _
theorem Footprint_n (x : Ins) (hx : ¬ x.ok) (r : Rg) : ACalls Tryd.prog 33 [x.av, r.av] [] (fun o H => o = .ret (.tuple [.view false 3 [], iv 20]) ∧ H = []) := by
  refine ACalls.up ?_
  refine ACalls.intro (cs := []) (n := 15) Tryd.func33 rfl rfl rfl (by kernel_rfl) rfl ?_
  generalize hpost : (fun (o : Out) (H : Heap) => o = Out.ret (.tuple [.view false 3 [], iv 20]) ∧ H = []) = post
  simp only [go_sem,Nat.reduceAdd,Nat.reduceSub,Nat.reduceMul,Nat.reduceEqDiff,Nat.reduceLeDiff,Nat.reduceLT,↓reduceIte,Int.reduceToNat,reduceCtorEq,Int.reduceLT,Int.reduceLE,Int.reduceGT,Int.reduceGE,Int.reduceEq,Int.reduceNe,Int.reduceNeg,Int.reduceAdd,Int.reduceSub,Ins.av,Ins.cells,Rg.av,Rg.cells]
  refine rK_use (enters_of Tryd.func51 rfl (by decide)) (ACalls.pure_use (icheck_c x) rfl rfl) ?_
  rw [Ins.chk, if_neg hx]
  simp only [go_sem,Nat.reduceAdd,Nat.reduceSub,Nat.reduceMul,Nat.reduceEqDiff,Nat.reduceLeDiff,Nat.reduceLT,↓reduceIte,Int.reduceToNat,reduceCtorEq,Int.reduceLT,Int.reduceLE,Int.reduceGT,Int.reduceGE,Int.reduceEq,Int.reduceNe,Int.reduceNeg,Int.reduceAdd,Int.reduceSub]
  refine .le (.ret (.tuple (.cons (.nil true false 0 3 (by simp)) (.cons (.refl _) .nil)))) (LeH.refl _) (finv rfl (by rw [← hpost]; exact ⟨rfl, rfl⟩) _)
end Go.Proofs.YtojfnagfafoiaaaDoor

set_option maxRecDepth 100000
set_option linter.unusedVariables false
set_option linter.unusedSimpArgs false
namespace Go.Proofs.YtojfnagfafoiaaaDoor
open Go.AM
structure Pr where
  rg : Rg
  x : Ins
  old : Rg
  s : Sp
  next : Int
  pos : Int
  tk : Int
  tn : Int
def Pr.row (p : Pr) (d : AV) : List AV :=
  [iv p.rg.r0, iv p.rg.r1, iv p.rg.r2, iv p.rg.r3, iv p.rg.r4, iv p.rg.r5, iv p.rg.r6, iv p.rg.r7, iv p.rg.pc, iv p.x.op, iv p.x.a, iv p.x.b, iv p.x.imm,
   iv p.old.r0, iv p.old.r1, iv p.old.r2, iv p.old.r3, iv p.old.r4, iv p.old.r5, iv p.old.r6, iv p.old.r7, iv p.old.pc, .view false 1 (p.s.perm.map r1), .view false 1 (p.s.byt.map rb), iv p.next, iv p.pos, d, iv p.tk, iv p.tn, iv 0, iv 0]
abbrev dnil : AV := .view true 0 []
abbrev dby (l : List UInt8) : AV := .view false 1 (l.map rb)
theorem Pr.row_lt (p : Pr) {d : AV} (hd : d.lt 0 = true) (m : Nat) : (Blk.rows 31 [p.row d]).lt m := fun row hr => by
  simp at hr; subst hr
  refine ltL_le (Nat.zero_le m) ?_
  simp [Pr.row, ltL, AV.lt, hd]
/-- The end, with the first block kept. -/
theorem fink {post : CQ} {v : AV} {b : Blk} {R : Heap} (hv : v.lt 1 = true) (hb : b.lt 1) (h : post (.ret v) [b]) : Up 1 post (.ret v) (b :: R) :=
  .gc 1 (Nat.le_refl _) (by simp) hv (by simpa using hb) (.done (by simpa using h))
theorem finkp {post : CQ} {v : AV} {b : Blk} {R : Heap} (hv : v.lt 1 = true) (hb : b.lt 1) (h : post (.pan v) [b]) : Up 1 post (.pan v) (b :: R) :=
  .gc 1 (Nat.le_refl _) (by simp) hv (by simpa using hb) (.done (by simpa using h))
abbrev sel8 (n a0 a1 a2 a3 a4 a5 a6 a7 : Int) : Int := ([a0, a1, a2, a3, a4, a5, a6, a7][n.toNat]?).getD 0
/-- A register ahead of the instruction. -/
theorem rd13 {n : Int} (h0 : 0 ≤ n) (h7 : n < 8) {c0 c1 c2 c3 c4 c5 c6 c7 c8 c9 c10 c11 c12 t0 t1 t2 t3 t4 t5 t6 t7 t8 t9 : AV} {a0 a1 a2 a3 a4 a5 a6 a7 : Int} :
    [c0, c1, c2, c3, c4, c5, c6, c7, c8, c9, c10, c11, c12, iv a0, iv a1, iv a2, iv a3, iv a4, iv a5, iv a6, iv a7, t0, t1, t2, t3, t4, t5, t6, t7, t8, t9][13 + n.toNat]? = some (iv (sel8 n a0 a1 a2 a3 a4 a5 a6 a7)) := by
  rcases cases8 h0 (by omega) with rfl | rfl | rfl | rfl | rfl | rfl | rfl | rfl <;> rfl
/-- A register is written. -/
theorem wr0 {n v : Int} (h0 : 0 ≤ n) (h7 : n < 8) {a0 a1 a2 a3 a4 a5 a6 a7 : Int} {l : List AV} :
    List.take n.toNat (iv a0 :: iv a1 :: iv a2 :: iv a3 :: iv a4 :: iv a5 :: iv a6 :: iv a7 :: l) ++ (iv v :: List.drop n.toNat (iv a1 :: iv a2 :: iv a3 :: iv a4 :: iv a5 :: iv a6 :: iv a7 :: l)) =
      iv (if n = 0 then v else a0) :: iv (if n = 1 then v else a1) :: iv (if n = 2 then v else a2) :: iv (if n = 3 then v else a3) :: iv (if n = 4 then v else a4) :: iv (if n = 5 then v else a5) :: iv (if n = 6 then v else a6) :: iv (if n = 7 then v else a7) :: l := by
  rcases cases8 h0 (by omega) with rfl | rfl | rfl | rfl | rfl | rfl | rfl | rfl <;> rfl
theorem a_c (p : Pr) (hx : p.x.ok) (d : AV) (hd : d.lt 0 = true) : ACalls Tryd.prog 97 [.ptr 0 0 0] [.rows 31 [p.row d]] (fun o H => o = .ret (iv (p.old.get p.x.a)) ∧ H = [.rows 31 [p.row d]]) := by
  refine ACalls.up ?_
  refine ACalls.intro (cs := []) (n := 14) Tryd.func97 rfl rfl rfl (by kernel_rfl) rfl ?_
  generalize hpost : (fun (o : Out) (H : Heap) => o = Out.ret (iv (p.old.get p.x.a)) ∧ H = [.rows 31 [p.row d]]) = post
  have ha : 0 ≤ p.x.a ∧ p.x.a < 8 := ⟨hx.a0, by have := hx.a7; omega⟩
  simp only [go_sem,Nat.reduceAdd,Nat.reduceSub,Nat.reduceMul,Nat.reduceEqDiff,Nat.reduceLeDiff,Nat.reduceLT,↓reduceIte,Int.reduceToNat,reduceCtorEq,Int.reduceLT,Int.reduceLE,Int.reduceGT,Int.reduceGE,Int.reduceEq,Int.reduceNe,Int.reduceNeg,Int.reduceAdd,Int.reduceSub,Pr.row]
  refine draw [.qu 0 0, .qu 0 0, .qu 0 0, .qu 0 0, .qu 0 0, .qu 0 0, .qu 0 0, .qu 0 0, .qu 0 0, .qu 0 0, .qu 0 0, .qu 0 0] (by kernel_rfl) (by kernel_rfl) ?_
  simp only [go_sem,Nat.reduceAdd,Nat.reduceSub,Nat.reduceMul,Nat.reduceEqDiff,Nat.reduceLeDiff,Nat.reduceLT,↓reduceIte,Int.reduceToNat,reduceCtorEq,Int.reduceLT,Int.reduceLE,Int.reduceGT,Int.reduceGE,Int.reduceEq,Int.reduceNe,Int.reduceNeg,Int.reduceAdd,Int.reduceSub,ha,rd13 ha.1 ha.2]
  exact fink rfl (p.row_lt hd 1) (by rw [← hpost]; exact ⟨rfl, rfl⟩)
theorem b_c (p : Pr) (hx : p.x.ok) (d : AV) (hd : d.lt 0 = true) : ACalls Tryd.prog 98 [.ptr 0 0 0] [.rows 31 [p.row d]] (fun o H => o = .ret (iv (p.old.get p.x.b)) ∧ H = [.rows 31 [p.row d]]) := by
  refine ACalls.up ?_
  refine ACalls.intro (cs := []) (n := 14) Tryd.func98 rfl rfl rfl (by kernel_rfl) rfl ?_
  generalize hpost : (fun (o : Out) (H : Heap) => o = Out.ret (iv (p.old.get p.x.b)) ∧ H = [.rows 31 [p.row d]]) = post
  have ha : 0 ≤ p.x.b ∧ p.x.b < 8 := ⟨hx.b0, by have := hx.b7; omega⟩
  simp only [go_sem,Nat.reduceAdd,Nat.reduceSub,Nat.reduceMul,Nat.reduceEqDiff,Nat.reduceLeDiff,Nat.reduceLT,↓reduceIte,Int.reduceToNat,reduceCtorEq,Int.reduceLT,Int.reduceLE,Int.reduceGT,Int.reduceGE,Int.reduceEq,Int.reduceNe,Int.reduceNeg,Int.reduceAdd,Int.reduceSub,Pr.row]
  refine draw [.qu 0 0, .qu 0 0, .qu 0 0, .qu 0 0, .qu 0 0, .qu 0 0, .qu 0 0, .qu 0 0, .qu 0 0, .qu 0 0, .qu 0 0, .qu 0 0] (by kernel_rfl) (by kernel_rfl) ?_
  simp only [go_sem,Nat.reduceAdd,Nat.reduceSub,Nat.reduceMul,Nat.reduceEqDiff,Nat.reduceLeDiff,Nat.reduceLT,↓reduceIte,Int.reduceToNat,reduceCtorEq,Int.reduceLT,Int.reduceLE,Int.reduceGT,Int.reduceGE,Int.reduceEq,Int.reduceNe,Int.reduceNeg,Int.reduceAdd,Int.reduceSub,ha,rd13 ha.1 ha.2]
  exact fink rfl (p.row_lt hd 1) (by rw [← hpost]; exact ⟨rfl, rfl⟩)
/-- The number whose bytes are some, the lowest one first. -/
def rdL (b : List UInt8) : Int := b.foldr (fun c v => bOr .i64 (iw .i64 (v * 256)) (c.toNat : Int)) 0
theorem rdL_at {b : List UInt8} {k : Nat} {c : UInt8} (h : b[k]? = some c) : rdL (b.drop k) = bOr .i64 (iw .i64 (rdL (b.drop (k + 1)) * 256)) (c.toNat : Int) := by
  rw [drop_at h]; rfl
theorem load_c (p : Pr) (hs : p.s.ok) (d : AV) (hd : d.lt 0 = true) (pos : Int) (hpos : I64 pos) (n : Nat) (hn : n ≤ 8) (h0 : n ≠ 0) (hf : (p.s.flt pos 0 n 0).kind = 0) :
    ACalls Tryd.prog 111 [.ptr 0 0 0, iv pos, iv n] [.rows 31 [p.row d]] (fun o H => o = .ret (iv (rdL (p.s.sub pos n))) ∧ H = [.rows 31 [p.row d]]) := by
  refine ACalls.up ?_
  refine ACalls.intro (cs := []) (n := 39) Tryd.func111 rfl rfl rfl (by kernel_rfl) rfl ?_
  generalize hpost : (fun (o : Out) (H : Heap) => o = Out.ret (iv (rdL (p.s.sub pos n))) ∧ H = [.rows 31 [p.row d]]) = post
  simp only [go_sem,Nat.reduceAdd,Nat.reduceSub,Nat.reduceMul,Nat.reduceEqDiff,Nat.reduceLeDiff,Nat.reduceLT,↓reduceIte,Int.reduceToNat,reduceCtorEq,Int.reduceLT,Int.reduceLE,Int.reduceGT,Int.reduceGE,Int.reduceEq,Int.reduceNe,Int.reduceNeg,Int.reduceAdd,Int.reduceSub,Pr.row]
  refine rK_use (enters_of Tryd.func127 rfl (by decide)) (ACalls.pure_use (peek_c p.s hs pos hpos n (by omega) h0 hf) rfl rfl) ?_
  generalize hb : p.s.sub pos n = b
  have hlb : b.length ≤ 8 := by rw [← hb, Sp.sub]; simp; omega
  have e0 : iw .i64 ((b.length : Int) - 1) = (b.length : Int) - 1 := iw64 (by omega) (by omega)
  simp only [go_sem,Nat.reduceAdd,Nat.reduceSub,Nat.reduceMul,Nat.reduceEqDiff,Nat.reduceLeDiff,Nat.reduceLT,↓reduceIte,Int.reduceToNat,reduceCtorEq,Int.reduceLT,Int.reduceLE,Int.reduceGT,Int.reduceGE,Int.reduceEq,Int.reduceNe,Int.reduceNeg,Int.reduceAdd,Int.reduceSub,List.length_map,e0]
  refine loop_fam (fun k : Nat => (((Ch.nil.put 7 (.view false 1 (b.map rb))).put 10 (iv (rdL (b.drop k)))).put 11 (iv ((k : Int) - 1)))) (fun _ => [.rows 31 [p.row d], .rows 2 [[iv 0, iv 0]]]) (fun k => k) (fun k => k ≤ b.length) b.length (by kernel_rfl) (Nat.le_refl _)
    (Wk.slots' rfl (by simp [wkS, Ch.get, rdL])) ?_
  rintro k hk K hK
  simp only [go_sem,Nat.reduceAdd,Nat.reduceSub,Nat.reduceMul,Nat.reduceEqDiff,Nat.reduceLeDiff,Nat.reduceLT,↓reduceIte,Int.reduceToNat,reduceCtorEq,Int.reduceLT,Int.reduceLE,Int.reduceGT,Int.reduceGE,Int.reduceEq,Int.reduceNe,Int.reduceNeg,Int.reduceAdd,Int.reduceSub]
  refine condD_dec (fun hc => ?_) (fun hc => ?_)
  · obtain ⟨m, rfl⟩ : ∃ m, k = m + 1 := ⟨k - 1, by omega⟩
    obtain ⟨c, hc'⟩ := at_lt (l := b) (i := m) (by omega)
    have e1 : (((m + 1 : Nat) : Int) - 1) = (m : Int) := by omega
    have e2 : (m : Int) < b.length := by omega
    have e3 : iw .i64 ((m : Int) - 1) = (m : Int) - 1 := iw64 (by omega) (by omega)
    rw [e1]
    simp only [go_sem,Nat.reduceAdd,Nat.reduceSub,Nat.reduceMul,Nat.reduceEqDiff,Nat.reduceLeDiff,Nat.reduceLT,↓reduceIte,Int.reduceToNat,reduceCtorEq,Int.reduceLT,Int.reduceLE,Int.reduceGT,Int.reduceGE,Int.reduceEq,Int.reduceNe,Int.reduceNeg,Int.reduceAdd,Int.reduceSub,e2,e3,List.length_map,List.getElem?_map,hc',Int.natCast_nonneg,iwb]
    refine hK m _ _ (by omega) (by omega) (Wk.slots' rfl ?_)
    simp [wkS, Ch.get, rdL_at hc']
  · have : k = 0 := by omega
    subst this
    simp only [go_sem,Nat.reduceAdd,Nat.reduceSub,Nat.reduceMul,Nat.reduceEqDiff,Nat.reduceLeDiff,Nat.reduceLT,↓reduceIte,Int.reduceToNat,reduceCtorEq,Int.reduceLT,Int.reduceLE,Int.reduceGT,Int.reduceGE,Int.reduceEq,Int.reduceNe,Int.reduceNeg,Int.reduceAdd,Int.reduceSub]
    exact fink rfl (p.row_lt hd 1) (by rw [← hpost]; exact ⟨by rw [hb], rfl⟩)
def b8 (v : Int) : UInt8 := UInt8.ofNat (v % 256).toNat
theorem iwb8 (v : Int) : iw .u8 v = (b8 v).toNat := by
  have : iw .u8 v = v % 256 := by simp [iw, IntKind.wrap, IntKind.signed, IntKind.bits]
  rw [this, b8, UInt8.toNat_ofNat']
  omega
/-- The lowest n bytes of a number. -/
def stL : Nat → Int → List UInt8
  | 0, _ => []
  | n + 1, v => b8 v :: stL n (v.fdiv 256)
def shr8 : Nat → Int → Int
  | 0, v => v
  | n + 1, v => shr8 n (v.fdiv 256)
theorem shr8_succ : ∀ (n : Nat) (v : Int), shr8 (n + 1) v = (shr8 n v).fdiv 256
  | 0, v => rfl
  | n + 1, v => by rw [shr8, shr8_succ n, shr8]
theorem stL_succ : ∀ (n : Nat) (v : Int), stL (n + 1) v = stL n v ++ [b8 (shr8 n v)]
  | 0, v => rfl
  | n + 1, v => by rw [stL, stL_succ n, stL, shr8]; rfl
theorem stL_len : ∀ (n : Nat) (v : Int), (stL n v).length = n
  | 0, v => rfl
  | n + 1, v => by rw [stL, List.length_cons, stL_len n]
theorem store_c (p : Pr) (pos v : Int) (n : Nat) (hn : n ≤ 8) :
    ACalls Tryd.prog 114 [.ptr 0 0 0, iv pos, iv n, iv v] [.rows 31 [p.row dnil]] (fun o H => o = .ret (.tuple []) ∧ H = [.rows 31 [{ p with pos := pos }.row (dby (stL n v))]]) := by
  refine ACalls.up ?_
  refine ACalls.intro (cs := []) (n := 29) Tryd.func114 rfl rfl rfl (by kernel_rfl) rfl ?_
  generalize hpost : (fun (o : Out) (H : Heap) => o = Out.ret (.tuple []) ∧ H = [.rows 31 [{ p with pos := pos }.row (dby (stL n v))]]) = post
  simp only [go_sem,Nat.reduceAdd,Nat.reduceSub,Nat.reduceMul,Nat.reduceEqDiff,Nat.reduceLeDiff,Nat.reduceLT,↓reduceIte,Int.reduceToNat,reduceCtorEq,Int.reduceLT,Int.reduceLE,Int.reduceGT,Int.reduceGE,Int.reduceEq,Int.reduceNe,Int.reduceNeg,Int.reduceAdd,Int.reduceSub,Pr.row]
  refine loop_fam (fun k : Nat => ((((Ch.nil.put 0 (.ptr 0 0 0)).put 3 (iv (shr8 k v))).put 12 (iv n)).put 13 (iv k))) (fun k => [.rows 31 [{ p with pos := pos }.row (.sl 1 0 k none)], .rows 1 ((stL k v).map rb)]) (fun k => n - k) (fun k => k ≤ n) 0 (by kernel_rfl) (Nat.zero_le _) ?_ ?_
  · refine (Wk.slots (s' := ((((Ch.nil.put 0 (.ptr 0 0 0)).put 3 (iv v)).put 12 (iv n)).put 13 (iv 0))) (by simp [wkS, Ch.get])).trans
      ((Wk.ghost (.rows 1 [])).trans (Wk.leH (.cons (.rows 31 (.cons ?_ .nil)) (LeH.refl _))))
    repeat' (first | exact LeL.nil | refine LeL.cons (.refl _) ?_ | refine LeL.cons (.sl0 0 1 0) ?_)
  rintro k hk K hK
  simp only [go_sem,Nat.reduceAdd,Nat.reduceSub,Nat.reduceMul,Nat.reduceEqDiff,Nat.reduceLeDiff,Nat.reduceLT,↓reduceIte,Int.reduceToNat,reduceCtorEq,Int.reduceLT,Int.reduceLE,Int.reduceGT,Int.reduceGE,Int.reduceEq,Int.reduceNe,Int.reduceNeg,Int.reduceAdd,Int.reduceSub,Pr.row]
  refine condD_dec (fun hc => ?_) (fun hc => ?_)
  · have e1 : iw .i64 ((k : Int) + 1) = ((k + 1 : Nat) : Int) := by rw [iw64] <;> omega
    have hl := stL_len k v
    have e4 : ((stL k v).map rb).take k = (stL k v).map rb := List.take_of_length_le (by simp [hl])
    have e5 : k + 1 ≤ 68719476736 := by omega
    have e6 : k ≤ (stL k v).length := by omega
    simp only [go_sem,Nat.reduceAdd,Nat.reduceSub,Nat.reduceMul,Nat.reduceEqDiff,Nat.reduceLeDiff,Nat.reduceLT,↓reduceIte,Int.reduceToNat,reduceCtorEq,Int.reduceLT,Int.reduceLE,Int.reduceGT,Int.reduceGE,Int.reduceEq,Int.reduceNe,Int.reduceNeg,Int.reduceAdd,Int.reduceSub,Pr.row,e1,e4,e5,e6,hl,List.length_map,iwb8]
    refine hK (k + 1) _ _ (by omega) (by omega) (Wk.pick [0, 3] (by decide) rfl ?_ ?_)
    · simp [Pr.row, Blk.ren, AV.ren, renL, pi, stL_succ]
    · simp [wkP, Ch.get, AV.ren, pi, shr8_succ]
  · have : k = n := by omega
    subst this
    simp only [go_sem,Nat.reduceAdd,Nat.reduceSub,Nat.reduceMul,Nat.reduceEqDiff,Nat.reduceLeDiff,Nat.reduceLT,↓reduceIte,Int.reduceToNat,reduceCtorEq,Int.reduceLT,Int.reduceLE,Int.reduceGT,Int.reduceGE,Int.reduceEq,Int.reduceNe,Int.reduceNeg,Int.reduceAdd,Int.reduceSub]
    have e4 : ((stL k v).map rb).take k = (stL k v).map rb := List.take_of_length_le (by simp [stL_len])
    refine .fz 1 1 ((stL k v).map rb) rfl (rb_pure _) (by simp [Out.fzOk, AV.fzOk, fzOkL]) ?_ (.gc 1 (Nat.le_refl _) (by simp) (by simp [Out.lt, Out.fz, AV.fz, fzL, AV.lt, ltL]) ?_ (.done ?_))
    · simp [Pr.row, Blk.fzOk, fzOkL, AV.fzOk, stL_len]
    · simp [Pr.row, Blk.lt, Blk.fz, AV.fz, AV.lt, ltL]
    · rw [← hpost]
      simp [Pr.row, Out.fz, AV.fz, fzL, Blk.fz, e4]
def Pr.set7 (p : Pr) (v : Int) : Pr := { p with rg := { p.rg with r7 := v } }
theorem push_c (p : Pr) (v : Int) :
    ACalls Tryd.prog 117 [.ptr 0 0 0, iv v] [.rows 31 [p.row dnil]] (fun o H => o = .ret (.tuple []) ∧ H = [.rows 31 [{ p.set7 (iw .i64 (p.old.r7 - 8)) with pos := iw .i64 (p.old.r7 - 8) }.row (dby (stL 8 v))]]) := by
  refine ACalls.up ?_
  refine ACalls.intro (cs := []) (n := 25) Tryd.func117 rfl rfl rfl (by kernel_rfl) rfl ?_
  generalize hpost : (fun (o : Out) (H : Heap) => o = Out.ret (.tuple []) ∧ H = [.rows 31 [{ p.set7 (iw .i64 (p.old.r7 - 8)) with pos := iw .i64 (p.old.r7 - 8) }.row (dby (stL 8 v))]]) = post
  simp only [go_sem,Nat.reduceAdd,Nat.reduceSub,Nat.reduceMul,Nat.reduceEqDiff,Nat.reduceLeDiff,Nat.reduceLT,↓reduceIte,Int.reduceToNat,reduceCtorEq,Int.reduceLT,Int.reduceLE,Int.reduceGT,Int.reduceGE,Int.reduceEq,Int.reduceNe,Int.reduceNeg,Int.reduceAdd,Int.reduceSub,Pr.row]
  refine draw [.qu 0 0, .qu 0 0, .qu 0 0, .qu 0 0, .qu 0 0, .qu 0 0, .qu 0 0, .qu 0 0, .qu 0 0, .qu 0 0, .qu 0 0, .qu 0 0, .mn 0] (by kernel_rfl) (by kernel_rfl) ?_
  simp only [go_sem,Nat.reduceAdd,Nat.reduceSub,Nat.reduceMul,Nat.reduceEqDiff,Nat.reduceLeDiff,Nat.reduceLT,↓reduceIte,Int.reduceToNat,reduceCtorEq,Int.reduceLT,Int.reduceLE,Int.reduceGT,Int.reduceGE,Int.reduceEq,Int.reduceNe,Int.reduceNeg,Int.reduceAdd,Int.reduceSub]
  refine rK_use (enters_of Tryd.func114 rfl (by decide)) (store_c (p.set7 (iw .i64 (p.old.r7 - 8))) (iw .i64 (p.old.r7 - 8)) v 8 (by decide)) ?_
  simp only [go_sem,Nat.reduceAdd,Nat.reduceSub,Nat.reduceMul,Nat.reduceEqDiff,Nat.reduceLeDiff,Nat.reduceLT,↓reduceIte,Int.reduceToNat,reduceCtorEq,Int.reduceLT,Int.reduceLE,Int.reduceGT,Int.reduceGE,Int.reduceEq,Int.reduceNe,Int.reduceNeg,Int.reduceAdd,Int.reduceSub]
  exact fink rfl (Pr.row_lt _ (by simp [AV.lt]) 1) (by rw [← hpost]; exact ⟨rfl, rfl⟩)
theorem trow {p : Pr} {d d' : AV} (H : Heap) (h : H = [.rows 31 [p.row d]]) (hd : d.lt 0 = true) {post : CQ} (hq : post (.ret (.tuple [])) [.rows 31 [p.row d]]) : Up 1 post (.ret (.tuple [])) H := by
  subst h
  exact fink rfl (p.row_lt hd 1) hq
end Go.Proofs.YtojfnagfafoiaaaDoor

set_option maxRecDepth 100000
set_option linter.unusedVariables false
set_option linter.unusedSimpArgs false
namespace Go.Proofs.YtojfnagfafoiaaaDoor
open Go.AM
def Pr.setA (p : Pr) (v : Int) : Pr := { p with rg := p.rg.set p.x.a v }
theorem t1_c (p : Pr) (hx : p.x.ok) :
    ACalls Tryd.prog 105 [.ptr 0 0 0] [.rows 31 [p.row dnil]] (fun o H => o = .ret (.tuple []) ∧ H = [.rows 31 [(p).row dnil]]) := by
  refine ACalls.up ?_
  refine ACalls.intro (cs := []) (n := 2) Tryd.func105 rfl rfl rfl (by kernel_rfl) rfl ?_
  generalize hpost : (fun (o : Out) (H : Heap) => o = Out.ret (.tuple []) ∧ H = [.rows 31 [Pr.row (p) dnil]]) = post
  have ha : 0 ≤ p.x.a ∧ p.x.a < 8 := ⟨hx.a0, by have := hx.a7; omega⟩
  have ha' : p.x.a.toNat + 1 ≤ 31 := by omega
  simp only [go_sem,Nat.reduceAdd,Nat.reduceSub,Nat.reduceMul,Nat.reduceEqDiff,Nat.reduceLeDiff,Nat.reduceLT,↓reduceIte,Int.reduceToNat,reduceCtorEq,Int.reduceLT,Int.reduceLE,Int.reduceGT,Int.reduceGE,Int.reduceEq,Int.reduceNe,Int.reduceNeg,Int.reduceAdd,Int.reduceSub]
  exact fink rfl (Pr.row_lt (p) (d := dnil) (by first | rfl | simp [AV.lt]) 1) (by rw [← hpost]; exact ⟨rfl, rfl⟩)
theorem t2_c (p : Pr) (hx : p.x.ok) :
    ACalls Tryd.prog 106 [.ptr 0 0 0] [.rows 31 [p.row dnil]] (fun o H => o = .ret (.tuple []) ∧ H = [.rows 31 [(p.setA (p.old.get p.x.b)).row dnil]]) := by
  refine ACalls.up ?_
  refine ACalls.intro (cs := []) (n := 14) Tryd.func106 rfl rfl rfl (by kernel_rfl) rfl ?_
  generalize hpost : (fun (o : Out) (H : Heap) => o = Out.ret (.tuple []) ∧ H = [.rows 31 [Pr.row (p.setA (p.old.get p.x.b)) dnil]]) = post
  have ha : 0 ≤ p.x.a ∧ p.x.a < 8 := ⟨hx.a0, by have := hx.a7; omega⟩
  have ha' : p.x.a.toNat + 1 ≤ 31 := by omega
  simp only [go_sem,Nat.reduceAdd,Nat.reduceSub,Nat.reduceMul,Nat.reduceEqDiff,Nat.reduceLeDiff,Nat.reduceLT,↓reduceIte,Int.reduceToNat,reduceCtorEq,Int.reduceLT,Int.reduceLE,Int.reduceGT,Int.reduceGE,Int.reduceEq,Int.reduceNe,Int.reduceNeg,Int.reduceAdd,Int.reduceSub]
  refine draw [.qu 0 1, .qu 0 1, .qu 0 1, .qu 0 1, .qu 0 1, .rd 0 1, .qu 0 0, .mn 0, .qu 0 1, .qu 0 1, .qu 0 1, .qu 1 1, .mn 1] (by kernel_rfl) (by kernel_rfl) ?_
  simp only [go_sem,Nat.reduceAdd,Nat.reduceSub,Nat.reduceMul,Nat.reduceEqDiff,Nat.reduceLeDiff,Nat.reduceLT,↓reduceIte,Int.reduceToNat,reduceCtorEq,Int.reduceLT,Int.reduceLE,Int.reduceGT,Int.reduceGE,Int.reduceEq,Int.reduceNe,Int.reduceNeg,Int.reduceAdd,Int.reduceSub,Pr.row]
  refine dM_call (enters_of Tryd.func98 rfl (by decide)) (b_c p hx dnil rfl) ?_
  simp only [go_sem,Nat.reduceAdd,Nat.reduceSub,Nat.reduceMul,Nat.reduceEqDiff,Nat.reduceLeDiff,Nat.reduceLT,↓reduceIte,Int.reduceToNat,reduceCtorEq,Int.reduceLT,Int.reduceLE,Int.reduceGT,Int.reduceGE,Int.reduceEq,Int.reduceNe,Int.reduceNeg,Int.reduceAdd,Int.reduceSub,Pr.row,ha,ha',wr0 ha.1 ha.2]
  exact fink rfl (Pr.row_lt (p.setA (p.old.get p.x.b)) (d := dnil) (by first | rfl | simp [AV.lt]) 1) (by rw [← hpost]; exact ⟨rfl, rfl⟩)
theorem t3_c (p : Pr) (hx : p.x.ok) :
    ACalls Tryd.prog 107 [.ptr 0 0 0] [.rows 31 [p.row dnil]] (fun o H => o = .ret (.tuple []) ∧ H = [.rows 31 [(p.setA p.x.imm).row dnil]]) := by
  refine ACalls.up ?_
  refine ACalls.intro (cs := []) (n := 17) Tryd.func107 rfl rfl rfl (by kernel_rfl) rfl ?_
  generalize hpost : (fun (o : Out) (H : Heap) => o = Out.ret (.tuple []) ∧ H = [.rows 31 [Pr.row (p.setA p.x.imm) dnil]]) = post
  have ha : 0 ≤ p.x.a ∧ p.x.a < 8 := ⟨hx.a0, by have := hx.a7; omega⟩
  have ha' : p.x.a.toNat + 1 ≤ 31 := by omega
  simp only [go_sem,Nat.reduceAdd,Nat.reduceSub,Nat.reduceMul,Nat.reduceEqDiff,Nat.reduceLeDiff,Nat.reduceLT,↓reduceIte,Int.reduceToNat,reduceCtorEq,Int.reduceLT,Int.reduceLE,Int.reduceGT,Int.reduceGE,Int.reduceEq,Int.reduceNe,Int.reduceNeg,Int.reduceAdd,Int.reduceSub]
  refine draw [.qu 0 0, .qu 0 0, .qu 0 0, .qu 0 0, .qu 0 0, .qu 0 0, .qu 0 0, .qu 0 0, .qu 0 0, .qu 0 0, .qu 0 0, .qu 0 0, .qu 0 0, .qu 0 0, .qu 0 0, .mn 0] (by kernel_rfl) (by kernel_rfl) ?_
  simp only [go_sem,Nat.reduceAdd,Nat.reduceSub,Nat.reduceMul,Nat.reduceEqDiff,Nat.reduceLeDiff,Nat.reduceLT,↓reduceIte,Int.reduceToNat,reduceCtorEq,Int.reduceLT,Int.reduceLE,Int.reduceGT,Int.reduceGE,Int.reduceEq,Int.reduceNe,Int.reduceNeg,Int.reduceAdd,Int.reduceSub,Pr.row,ha,ha',wr0 ha.1 ha.2]
  exact fink rfl (Pr.row_lt (p.setA p.x.imm) (d := dnil) (by first | rfl | simp [AV.lt]) 1) (by rw [← hpost]; exact ⟨rfl, rfl⟩)
theorem t4_c (p : Pr) (hx : p.x.ok) :
    ACalls Tryd.prog 108 [.ptr 0 0 0] [.rows 31 [p.row dnil]] (fun o H => o = .ret (.tuple []) ∧ H = [.rows 31 [(p.setA p.x.imm).row dnil]]) := by
  refine ACalls.up ?_
  refine ACalls.intro (cs := []) (n := 17) Tryd.func108 rfl rfl rfl (by kernel_rfl) rfl ?_
  generalize hpost : (fun (o : Out) (H : Heap) => o = Out.ret (.tuple []) ∧ H = [.rows 31 [Pr.row (p.setA p.x.imm) dnil]]) = post
  have ha : 0 ≤ p.x.a ∧ p.x.a < 8 := ⟨hx.a0, by have := hx.a7; omega⟩
  have ha' : p.x.a.toNat + 1 ≤ 31 := by omega
  simp only [go_sem,Nat.reduceAdd,Nat.reduceSub,Nat.reduceMul,Nat.reduceEqDiff,Nat.reduceLeDiff,Nat.reduceLT,↓reduceIte,Int.reduceToNat,reduceCtorEq,Int.reduceLT,Int.reduceLE,Int.reduceGT,Int.reduceGE,Int.reduceEq,Int.reduceNe,Int.reduceNeg,Int.reduceAdd,Int.reduceSub]
  refine draw [.qu 0 0, .qu 0 0, .qu 0 0, .qu 0 0, .qu 0 0, .qu 0 0, .qu 0 0, .qu 0 0, .qu 0 0, .qu 0 0, .qu 0 0, .qu 0 0, .qu 0 0, .qu 0 0, .qu 0 0, .mn 0] (by kernel_rfl) (by kernel_rfl) ?_
  simp only [go_sem,Nat.reduceAdd,Nat.reduceSub,Nat.reduceMul,Nat.reduceEqDiff,Nat.reduceLeDiff,Nat.reduceLT,↓reduceIte,Int.reduceToNat,reduceCtorEq,Int.reduceLT,Int.reduceLE,Int.reduceGT,Int.reduceGE,Int.reduceEq,Int.reduceNe,Int.reduceNeg,Int.reduceAdd,Int.reduceSub,Pr.row,ha,ha',wr0 ha.1 ha.2]
  exact fink rfl (Pr.row_lt (p.setA p.x.imm) (d := dnil) (by first | rfl | simp [AV.lt]) 1) (by rw [← hpost]; exact ⟨rfl, rfl⟩)
theorem t5_c (p : Pr) (hx : p.x.ok) :
    ACalls Tryd.prog 109 [.ptr 0 0 0] [.rows 31 [p.row dnil]] (fun o H => o = .ret (.tuple []) ∧ H = [.rows 31 [(p.setA (iw .i64 (p.old.get p.x.a + p.x.imm))).row dnil]]) := by
  refine ACalls.up ?_
  refine ACalls.intro (cs := []) (n := 20) Tryd.func109 rfl rfl rfl (by kernel_rfl) rfl ?_
  generalize hpost : (fun (o : Out) (H : Heap) => o = Out.ret (.tuple []) ∧ H = [.rows 31 [Pr.row (p.setA (iw .i64 (p.old.get p.x.a + p.x.imm))) dnil]]) = post
  have ha : 0 ≤ p.x.a ∧ p.x.a < 8 := ⟨hx.a0, by have := hx.a7; omega⟩
  have ha' : p.x.a.toNat + 1 ≤ 31 := by omega
  simp only [go_sem,Nat.reduceAdd,Nat.reduceSub,Nat.reduceMul,Nat.reduceEqDiff,Nat.reduceLeDiff,Nat.reduceLT,↓reduceIte,Int.reduceToNat,reduceCtorEq,Int.reduceLT,Int.reduceLE,Int.reduceGT,Int.reduceGE,Int.reduceEq,Int.reduceNe,Int.reduceNeg,Int.reduceAdd,Int.reduceSub]
  refine draw [.qu 0 1, .qu 0 1, .qu 0 1, .qu 0 1, .qu 0 1, .rd 0 1, .qu 0 0, .mn 0, .qu 0 1, .qu 0 1, .qu 0 1, .qu 0 1, .rd 0 1, .qu 1 1, .qu 0 1, .qu 0 1, .qu 0 1, .qu 1 1, .mn 1] (by kernel_rfl) (by kernel_rfl) ?_
  simp only [go_sem,Nat.reduceAdd,Nat.reduceSub,Nat.reduceMul,Nat.reduceEqDiff,Nat.reduceLeDiff,Nat.reduceLT,↓reduceIte,Int.reduceToNat,reduceCtorEq,Int.reduceLT,Int.reduceLE,Int.reduceGT,Int.reduceGE,Int.reduceEq,Int.reduceNe,Int.reduceNeg,Int.reduceAdd,Int.reduceSub,Pr.row]
  refine dM_call (enters_of Tryd.func97 rfl (by decide)) (a_c p hx dnil rfl) ?_
  simp only [go_sem,Nat.reduceAdd,Nat.reduceSub,Nat.reduceMul,Nat.reduceEqDiff,Nat.reduceLeDiff,Nat.reduceLT,↓reduceIte,Int.reduceToNat,reduceCtorEq,Int.reduceLT,Int.reduceLE,Int.reduceGT,Int.reduceGE,Int.reduceEq,Int.reduceNe,Int.reduceNeg,Int.reduceAdd,Int.reduceSub,Pr.row,ha,ha',wr0 ha.1 ha.2]
  exact fink rfl (Pr.row_lt (p.setA (iw .i64 (p.old.get p.x.a + p.x.imm))) (d := dnil) (by first | rfl | simp [AV.lt]) 1) (by rw [← hpost]; exact ⟨rfl, rfl⟩)
theorem t6_c (p : Pr) (hx : p.x.ok) (hs : p.s.ok) (hf : (p.s.flt (iw .i64 (p.old.get p.x.b + p.x.imm)) 0 1 0).kind = 0) :
    ACalls Tryd.prog 110 [.ptr 0 0 0] [.rows 31 [p.row dnil]] (fun o H => o = .ret (.tuple []) ∧ H = [.rows 31 [(p.setA (rdL (p.s.sub (iw .i64 (p.old.get p.x.b + p.x.imm)) 1))).row dnil]]) := by
  refine ACalls.up ?_
  refine ACalls.intro (cs := []) (n := 22) Tryd.func110 rfl rfl rfl (by kernel_rfl) rfl ?_
  generalize hpost : (fun (o : Out) (H : Heap) => o = Out.ret (.tuple []) ∧ H = [.rows 31 [Pr.row (p.setA (rdL (p.s.sub (iw .i64 (p.old.get p.x.b + p.x.imm)) 1))) dnil]]) = post
  have ha : 0 ≤ p.x.a ∧ p.x.a < 8 := ⟨hx.a0, by have := hx.a7; omega⟩
  have ha' : p.x.a.toNat + 1 ≤ 31 := by omega
  simp only [go_sem,Nat.reduceAdd,Nat.reduceSub,Nat.reduceMul,Nat.reduceEqDiff,Nat.reduceLeDiff,Nat.reduceLT,↓reduceIte,Int.reduceToNat,reduceCtorEq,Int.reduceLT,Int.reduceLE,Int.reduceGT,Int.reduceGE,Int.reduceEq,Int.reduceNe,Int.reduceNeg,Int.reduceAdd,Int.reduceSub]
  refine draw [.qu 0 2, .qu 0 2, .qu 0 2, .qu 0 2, .qu 0 2, .rd 0 2, .qu 0 1, .qu 0 0, .mn 0, .qu 0 1, .qu 0 1, .qu 0 1, .qu 0 1, .rd 0 1, .qu 1 1, .mn 1, .qu 0 2, .qu 0 2, .qu 0 2, .qu 2 2, .mn 2] (by kernel_rfl) (by kernel_rfl) ?_
  simp only [go_sem,Nat.reduceAdd,Nat.reduceSub,Nat.reduceMul,Nat.reduceEqDiff,Nat.reduceLeDiff,Nat.reduceLT,↓reduceIte,Int.reduceToNat,reduceCtorEq,Int.reduceLT,Int.reduceLE,Int.reduceGT,Int.reduceGE,Int.reduceEq,Int.reduceNe,Int.reduceNeg,Int.reduceAdd,Int.reduceSub,Pr.row]
  refine dM_call (enters_of Tryd.func98 rfl (by decide)) (b_c p hx dnil rfl) ?_
  simp only [go_sem,Nat.reduceAdd,Nat.reduceSub,Nat.reduceMul,Nat.reduceEqDiff,Nat.reduceLeDiff,Nat.reduceLT,↓reduceIte,Int.reduceToNat,reduceCtorEq,Int.reduceLT,Int.reduceLE,Int.reduceGT,Int.reduceGE,Int.reduceEq,Int.reduceNe,Int.reduceNeg,Int.reduceAdd,Int.reduceSub,Pr.row]
  refine dM_call (enters_of Tryd.func111 rfl (by decide)) (load_c p hs dnil rfl _ (iw_i64 _) 1 (by decide) (by decide) hf) ?_
  simp only [go_sem,Nat.reduceAdd,Nat.reduceSub,Nat.reduceMul,Nat.reduceEqDiff,Nat.reduceLeDiff,Nat.reduceLT,↓reduceIte,Int.reduceToNat,reduceCtorEq,Int.reduceLT,Int.reduceLE,Int.reduceGT,Int.reduceGE,Int.reduceEq,Int.reduceNe,Int.reduceNeg,Int.reduceAdd,Int.reduceSub,Pr.row,ha,ha',wr0 ha.1 ha.2]
  exact fink rfl (Pr.row_lt (p.setA (rdL (p.s.sub (iw .i64 (p.old.get p.x.b + p.x.imm)) 1))) (d := dnil) (by first | rfl | simp [AV.lt]) 1) (by rw [← hpost]; exact ⟨rfl, rfl⟩)
theorem t7_c (p : Pr) (hx : p.x.ok) (hs : p.s.ok) (hf : (p.s.flt (iw .i64 (p.old.get p.x.b + p.x.imm)) 0 8 0).kind = 0) :
    ACalls Tryd.prog 112 [.ptr 0 0 0] [.rows 31 [p.row dnil]] (fun o H => o = .ret (.tuple []) ∧ H = [.rows 31 [(p.setA (rdL (p.s.sub (iw .i64 (p.old.get p.x.b + p.x.imm)) 8))).row dnil]]) := by
  refine ACalls.up ?_
  refine ACalls.intro (cs := []) (n := 22) Tryd.func112 rfl rfl rfl (by kernel_rfl) rfl ?_
  generalize hpost : (fun (o : Out) (H : Heap) => o = Out.ret (.tuple []) ∧ H = [.rows 31 [Pr.row (p.setA (rdL (p.s.sub (iw .i64 (p.old.get p.x.b + p.x.imm)) 8))) dnil]]) = post
  have ha : 0 ≤ p.x.a ∧ p.x.a < 8 := ⟨hx.a0, by have := hx.a7; omega⟩
  have ha' : p.x.a.toNat + 1 ≤ 31 := by omega
  simp only [go_sem,Nat.reduceAdd,Nat.reduceSub,Nat.reduceMul,Nat.reduceEqDiff,Nat.reduceLeDiff,Nat.reduceLT,↓reduceIte,Int.reduceToNat,reduceCtorEq,Int.reduceLT,Int.reduceLE,Int.reduceGT,Int.reduceGE,Int.reduceEq,Int.reduceNe,Int.reduceNeg,Int.reduceAdd,Int.reduceSub]
  refine draw [.qu 0 2, .qu 0 2, .qu 0 2, .qu 0 2, .qu 0 2, .rd 0 2, .qu 0 1, .qu 0 0, .mn 0, .qu 0 1, .qu 0 1, .qu 0 1, .qu 0 1, .rd 0 1, .qu 1 1, .mn 1, .qu 0 2, .qu 0 2, .qu 0 2, .qu 2 2, .mn 2] (by kernel_rfl) (by kernel_rfl) ?_
  simp only [go_sem,Nat.reduceAdd,Nat.reduceSub,Nat.reduceMul,Nat.reduceEqDiff,Nat.reduceLeDiff,Nat.reduceLT,↓reduceIte,Int.reduceToNat,reduceCtorEq,Int.reduceLT,Int.reduceLE,Int.reduceGT,Int.reduceGE,Int.reduceEq,Int.reduceNe,Int.reduceNeg,Int.reduceAdd,Int.reduceSub,Pr.row]
  refine dM_call (enters_of Tryd.func98 rfl (by decide)) (b_c p hx dnil rfl) ?_
  simp only [go_sem,Nat.reduceAdd,Nat.reduceSub,Nat.reduceMul,Nat.reduceEqDiff,Nat.reduceLeDiff,Nat.reduceLT,↓reduceIte,Int.reduceToNat,reduceCtorEq,Int.reduceLT,Int.reduceLE,Int.reduceGT,Int.reduceGE,Int.reduceEq,Int.reduceNe,Int.reduceNeg,Int.reduceAdd,Int.reduceSub,Pr.row]
  refine dM_call (enters_of Tryd.func111 rfl (by decide)) (load_c p hs dnil rfl _ (iw_i64 _) 8 (by decide) (by decide) hf) ?_
  simp only [go_sem,Nat.reduceAdd,Nat.reduceSub,Nat.reduceMul,Nat.reduceEqDiff,Nat.reduceLeDiff,Nat.reduceLT,↓reduceIte,Int.reduceToNat,reduceCtorEq,Int.reduceLT,Int.reduceLE,Int.reduceGT,Int.reduceGE,Int.reduceEq,Int.reduceNe,Int.reduceNeg,Int.reduceAdd,Int.reduceSub,Pr.row,ha,ha',wr0 ha.1 ha.2]
  exact fink rfl (Pr.row_lt (p.setA (rdL (p.s.sub (iw .i64 (p.old.get p.x.b + p.x.imm)) 8))) (d := dnil) (by first | rfl | simp [AV.lt]) 1) (by rw [← hpost]; exact ⟨rfl, rfl⟩)
theorem t8_c (p : Pr) (hx : p.x.ok) :
    ACalls Tryd.prog 113 [.ptr 0 0 0] [.rows 31 [p.row dnil]] (fun o H => o = .ret (.tuple []) ∧ H = [.rows 31 [({ p with pos := (iw .i64 (p.old.get p.x.b + p.x.imm)) }).row (dby (stL 1 (p.old.get p.x.a)))]]) := by
  refine ACalls.up ?_
  refine ACalls.intro (cs := []) (n := 14) Tryd.func113 rfl rfl rfl (by kernel_rfl) rfl ?_
  generalize hpost : (fun (o : Out) (H : Heap) => o = Out.ret (.tuple []) ∧ H = [.rows 31 [Pr.row ({ p with pos := (iw .i64 (p.old.get p.x.b + p.x.imm)) }) (dby (stL 1 (p.old.get p.x.a)))]]) = post
  have ha : 0 ≤ p.x.a ∧ p.x.a < 8 := ⟨hx.a0, by have := hx.a7; omega⟩
  have ha' : p.x.a.toNat + 1 ≤ 31 := by omega
  simp only [go_sem,Nat.reduceAdd,Nat.reduceSub,Nat.reduceMul,Nat.reduceEqDiff,Nat.reduceLeDiff,Nat.reduceLT,↓reduceIte,Int.reduceToNat,reduceCtorEq,Int.reduceLT,Int.reduceLE,Int.reduceGT,Int.reduceGE,Int.reduceEq,Int.reduceNe,Int.reduceNeg,Int.reduceAdd,Int.reduceSub]
  refine draw [.qu 0 2, .qu 0 0, .mn 0, .qu 0 2, .qu 0 2, .qu 0 2, .qu 0 2, .rd 0 2, .qu 1 2, .qu 0 1, .mn 1, .mn 2] (by kernel_rfl) (by kernel_rfl) ?_
  simp only [go_sem,Nat.reduceAdd,Nat.reduceSub,Nat.reduceMul,Nat.reduceEqDiff,Nat.reduceLeDiff,Nat.reduceLT,↓reduceIte,Int.reduceToNat,reduceCtorEq,Int.reduceLT,Int.reduceLE,Int.reduceGT,Int.reduceGE,Int.reduceEq,Int.reduceNe,Int.reduceNeg,Int.reduceAdd,Int.reduceSub,Pr.row]
  refine dM_call (enters_of Tryd.func98 rfl (by decide)) (b_c p hx dnil rfl) ?_
  simp only [go_sem,Nat.reduceAdd,Nat.reduceSub,Nat.reduceMul,Nat.reduceEqDiff,Nat.reduceLeDiff,Nat.reduceLT,↓reduceIte,Int.reduceToNat,reduceCtorEq,Int.reduceLT,Int.reduceLE,Int.reduceGT,Int.reduceGE,Int.reduceEq,Int.reduceNe,Int.reduceNeg,Int.reduceAdd,Int.reduceSub,Pr.row]
  refine dM_call (enters_of Tryd.func97 rfl (by decide)) (a_c p hx dnil rfl) ?_
  simp only [go_sem,Nat.reduceAdd,Nat.reduceSub,Nat.reduceMul,Nat.reduceEqDiff,Nat.reduceLeDiff,Nat.reduceLT,↓reduceIte,Int.reduceToNat,reduceCtorEq,Int.reduceLT,Int.reduceLE,Int.reduceGT,Int.reduceGE,Int.reduceEq,Int.reduceNe,Int.reduceNeg,Int.reduceAdd,Int.reduceSub,Pr.row]
  refine dM_call (enters_of Tryd.func114 rfl (by decide)) (store_c p _ _ 1 (by decide)) ?_
  simp only [go_sem,Nat.reduceAdd,Nat.reduceSub,Nat.reduceMul,Nat.reduceEqDiff,Nat.reduceLeDiff,Nat.reduceLT,↓reduceIte,Int.reduceToNat,reduceCtorEq,Int.reduceLT,Int.reduceLE,Int.reduceGT,Int.reduceGE,Int.reduceEq,Int.reduceNe,Int.reduceNeg,Int.reduceAdd,Int.reduceSub,Pr.row]
  exact fink rfl (Pr.row_lt ({ p with pos := (iw .i64 (p.old.get p.x.b + p.x.imm)) }) (d := (dby (stL 1 (p.old.get p.x.a)))) (by first | rfl | simp [AV.lt]) 1) (by rw [← hpost]; exact ⟨rfl, rfl⟩)
theorem t9_c (p : Pr) (hx : p.x.ok) :
    ACalls Tryd.prog 115 [.ptr 0 0 0] [.rows 31 [p.row dnil]] (fun o H => o = .ret (.tuple []) ∧ H = [.rows 31 [({ p with pos := (iw .i64 (p.old.get p.x.b + p.x.imm)) }).row (dby (stL 8 (p.old.get p.x.a)))]]) := by
  refine ACalls.up ?_
  refine ACalls.intro (cs := []) (n := 14) Tryd.func115 rfl rfl rfl (by kernel_rfl) rfl ?_
  generalize hpost : (fun (o : Out) (H : Heap) => o = Out.ret (.tuple []) ∧ H = [.rows 31 [Pr.row ({ p with pos := (iw .i64 (p.old.get p.x.b + p.x.imm)) }) (dby (stL 8 (p.old.get p.x.a)))]]) = post
  have ha : 0 ≤ p.x.a ∧ p.x.a < 8 := ⟨hx.a0, by have := hx.a7; omega⟩
  have ha' : p.x.a.toNat + 1 ≤ 31 := by omega
  simp only [go_sem,Nat.reduceAdd,Nat.reduceSub,Nat.reduceMul,Nat.reduceEqDiff,Nat.reduceLeDiff,Nat.reduceLT,↓reduceIte,Int.reduceToNat,reduceCtorEq,Int.reduceLT,Int.reduceLE,Int.reduceGT,Int.reduceGE,Int.reduceEq,Int.reduceNe,Int.reduceNeg,Int.reduceAdd,Int.reduceSub]
  refine draw [.qu 0 2, .qu 0 0, .mn 0, .qu 0 2, .qu 0 2, .qu 0 2, .qu 0 2, .rd 0 2, .qu 1 2, .qu 0 1, .mn 1, .mn 2] (by kernel_rfl) (by kernel_rfl) ?_
  simp only [go_sem,Nat.reduceAdd,Nat.reduceSub,Nat.reduceMul,Nat.reduceEqDiff,Nat.reduceLeDiff,Nat.reduceLT,↓reduceIte,Int.reduceToNat,reduceCtorEq,Int.reduceLT,Int.reduceLE,Int.reduceGT,Int.reduceGE,Int.reduceEq,Int.reduceNe,Int.reduceNeg,Int.reduceAdd,Int.reduceSub,Pr.row]
  refine dM_call (enters_of Tryd.func98 rfl (by decide)) (b_c p hx dnil rfl) ?_
  simp only [go_sem,Nat.reduceAdd,Nat.reduceSub,Nat.reduceMul,Nat.reduceEqDiff,Nat.reduceLeDiff,Nat.reduceLT,↓reduceIte,Int.reduceToNat,reduceCtorEq,Int.reduceLT,Int.reduceLE,Int.reduceGT,Int.reduceGE,Int.reduceEq,Int.reduceNe,Int.reduceNeg,Int.reduceAdd,Int.reduceSub,Pr.row]
  refine dM_call (enters_of Tryd.func97 rfl (by decide)) (a_c p hx dnil rfl) ?_
  simp only [go_sem,Nat.reduceAdd,Nat.reduceSub,Nat.reduceMul,Nat.reduceEqDiff,Nat.reduceLeDiff,Nat.reduceLT,↓reduceIte,Int.reduceToNat,reduceCtorEq,Int.reduceLT,Int.reduceLE,Int.reduceGT,Int.reduceGE,Int.reduceEq,Int.reduceNe,Int.reduceNeg,Int.reduceAdd,Int.reduceSub,Pr.row]
  refine dM_call (enters_of Tryd.func114 rfl (by decide)) (store_c p _ _ 8 (by decide)) ?_
  simp only [go_sem,Nat.reduceAdd,Nat.reduceSub,Nat.reduceMul,Nat.reduceEqDiff,Nat.reduceLeDiff,Nat.reduceLT,↓reduceIte,Int.reduceToNat,reduceCtorEq,Int.reduceLT,Int.reduceLE,Int.reduceGT,Int.reduceGE,Int.reduceEq,Int.reduceNe,Int.reduceNeg,Int.reduceAdd,Int.reduceSub,Pr.row]
  exact fink rfl (Pr.row_lt ({ p with pos := (iw .i64 (p.old.get p.x.b + p.x.imm)) }) (d := (dby (stL 8 (p.old.get p.x.a)))) (by first | rfl | simp [AV.lt]) 1) (by rw [← hpost]; exact ⟨rfl, rfl⟩)
theorem t10_c (p : Pr) (hx : p.x.ok) :
    ACalls Tryd.prog 116 [.ptr 0 0 0] [.rows 31 [p.row dnil]] (fun o H => o = .ret (.tuple []) ∧ H = [.rows 31 [({ p.set7 (iw .i64 (p.old.r7 - 8)) with pos := iw .i64 (p.old.r7 - 8), rg := { (p.set7 (iw .i64 (p.old.r7 - 8))).rg with pc := iw .i64 (p.next + p.x.imm) } }).row (dby (stL 8 p.next))]]) := by
  refine ACalls.up ?_
  refine ACalls.intro (cs := []) (n := 22) Tryd.func116 rfl rfl rfl (by kernel_rfl) rfl ?_
  generalize hpost : (fun (o : Out) (H : Heap) => o = Out.ret (.tuple []) ∧ H = [.rows 31 [Pr.row ({ p.set7 (iw .i64 (p.old.r7 - 8)) with pos := iw .i64 (p.old.r7 - 8), rg := { (p.set7 (iw .i64 (p.old.r7 - 8))).rg with pc := iw .i64 (p.next + p.x.imm) } }) (dby (stL 8 p.next))]]) = post
  have ha : 0 ≤ p.x.a ∧ p.x.a < 8 := ⟨hx.a0, by have := hx.a7; omega⟩
  have ha' : p.x.a.toNat + 1 ≤ 31 := by omega
  simp only [go_sem,Nat.reduceAdd,Nat.reduceSub,Nat.reduceMul,Nat.reduceEqDiff,Nat.reduceLeDiff,Nat.reduceLT,↓reduceIte,Int.reduceToNat,reduceCtorEq,Int.reduceLT,Int.reduceLE,Int.reduceGT,Int.reduceGE,Int.reduceEq,Int.reduceNe,Int.reduceNeg,Int.reduceAdd,Int.reduceSub,Pr.row]
  refine rK_use (enters_of Tryd.func117 rfl (by decide)) (push_c p p.next) ?_
  simp only [go_sem,Nat.reduceAdd,Nat.reduceSub,Nat.reduceMul,Nat.reduceEqDiff,Nat.reduceLeDiff,Nat.reduceLT,↓reduceIte,Int.reduceToNat,reduceCtorEq,Int.reduceLT,Int.reduceLE,Int.reduceGT,Int.reduceGE,Int.reduceEq,Int.reduceNe,Int.reduceNeg,Int.reduceAdd,Int.reduceSub]
  refine draw [.qu 0 0, .qu 0 0, .qu 0 0, .qu 0 0, .qu 0 0, .qu 0 0, .qu 0 0, .qu 0 0, .qu 0 0, .qu 0 0, .qu 0 0, .qu 0 0, .qu 0 0, .qu 0 0, .mn 0] (by kernel_rfl) (by kernel_rfl) ?_
  simp only [go_sem,Nat.reduceAdd,Nat.reduceSub,Nat.reduceMul,Nat.reduceEqDiff,Nat.reduceLeDiff,Nat.reduceLT,↓reduceIte,Int.reduceToNat,reduceCtorEq,Int.reduceLT,Int.reduceLE,Int.reduceGT,Int.reduceGE,Int.reduceEq,Int.reduceNe,Int.reduceNeg,Int.reduceAdd,Int.reduceSub,Pr.row,Pr.set7]
  exact fink rfl (Pr.row_lt ({ p.set7 (iw .i64 (p.old.r7 - 8)) with pos := iw .i64 (p.old.r7 - 8), rg := { (p.set7 (iw .i64 (p.old.r7 - 8))).rg with pc := iw .i64 (p.next + p.x.imm) } }) (d := (dby (stL 8 p.next))) (by first | rfl | simp [AV.lt]) 1) (by rw [← hpost]; exact ⟨rfl, rfl⟩)
theorem t11_c (p : Pr) (hx : p.x.ok) :
    ACalls Tryd.prog 118 [.ptr 0 0 0] [.rows 31 [p.row dnil]] (fun o H => o = .ret (.tuple []) ∧ H = [.rows 31 [({ p.set7 (iw .i64 (p.old.r7 - 8)) with pos := iw .i64 (p.old.r7 - 8), rg := { (p.set7 (iw .i64 (p.old.r7 - 8))).rg with pc := p.old.get p.x.a } }).row (dby (stL 8 p.next))]]) := by
  refine ACalls.up ?_
  refine ACalls.intro (cs := []) (n := 14) Tryd.func118 rfl rfl rfl (by kernel_rfl) rfl ?_
  generalize hpost : (fun (o : Out) (H : Heap) => o = Out.ret (.tuple []) ∧ H = [.rows 31 [Pr.row ({ p.set7 (iw .i64 (p.old.r7 - 8)) with pos := iw .i64 (p.old.r7 - 8), rg := { (p.set7 (iw .i64 (p.old.r7 - 8))).rg with pc := p.old.get p.x.a } }) (dby (stL 8 p.next))]]) = post
  have ha : 0 ≤ p.x.a ∧ p.x.a < 8 := ⟨hx.a0, by have := hx.a7; omega⟩
  have ha' : p.x.a.toNat + 1 ≤ 31 := by omega
  simp only [go_sem,Nat.reduceAdd,Nat.reduceSub,Nat.reduceMul,Nat.reduceEqDiff,Nat.reduceLeDiff,Nat.reduceLT,↓reduceIte,Int.reduceToNat,reduceCtorEq,Int.reduceLT,Int.reduceLE,Int.reduceGT,Int.reduceGE,Int.reduceEq,Int.reduceNe,Int.reduceNeg,Int.reduceAdd,Int.reduceSub,Pr.row]
  refine rK_use (enters_of Tryd.func117 rfl (by decide)) (push_c p p.next) ?_
  simp only [go_sem,Nat.reduceAdd,Nat.reduceSub,Nat.reduceMul,Nat.reduceEqDiff,Nat.reduceLeDiff,Nat.reduceLT,↓reduceIte,Int.reduceToNat,reduceCtorEq,Int.reduceLT,Int.reduceLE,Int.reduceGT,Int.reduceGE,Int.reduceEq,Int.reduceNe,Int.reduceNeg,Int.reduceAdd,Int.reduceSub]
  refine rK_use (enters_of Tryd.func97 rfl (by decide)) (a_c ({ p.set7 (iw .i64 (p.old.r7 - 8)) with pos := iw .i64 (p.old.r7 - 8) : Pr }) hx (dby (stL 8 p.next)) (by simp [AV.lt])) ?_
  simp only [go_sem,Nat.reduceAdd,Nat.reduceSub,Nat.reduceMul,Nat.reduceEqDiff,Nat.reduceLeDiff,Nat.reduceLT,↓reduceIte,Int.reduceToNat,reduceCtorEq,Int.reduceLT,Int.reduceLE,Int.reduceGT,Int.reduceGE,Int.reduceEq,Int.reduceNe,Int.reduceNeg,Int.reduceAdd,Int.reduceSub,Pr.row,Pr.set7]
  exact fink rfl (Pr.row_lt ({ p.set7 (iw .i64 (p.old.r7 - 8)) with pos := iw .i64 (p.old.r7 - 8), rg := { (p.set7 (iw .i64 (p.old.r7 - 8))).rg with pc := p.old.get p.x.a } }) (d := (dby (stL 8 p.next))) (by first | rfl | simp [AV.lt]) 1) (by rw [← hpost]; exact ⟨rfl, rfl⟩)
theorem t12_c (p : Pr) (hx : p.x.ok) (hs : p.s.ok) (h7 : I64 p.old.r7) (hf : (p.s.flt p.old.r7 0 8 0).kind = 0) :
    ACalls Tryd.prog 119 [.ptr 0 0 0] [.rows 31 [p.row dnil]] (fun o H => o = .ret (.tuple []) ∧ H = [.rows 31 [({ p with rg := { p.rg with pc := rdL (p.s.sub p.old.r7 8), r7 := iw .i64 (p.old.r7 + 8) } }).row dnil]]) := by
  refine ACalls.up ?_
  refine ACalls.intro (cs := []) (n := 26) Tryd.func119 rfl rfl rfl (by kernel_rfl) rfl ?_
  generalize hpost : (fun (o : Out) (H : Heap) => o = Out.ret (.tuple []) ∧ H = [.rows 31 [Pr.row ({ p with rg := { p.rg with pc := rdL (p.s.sub p.old.r7 8), r7 := iw .i64 (p.old.r7 + 8) } }) dnil]]) = post
  have ha : 0 ≤ p.x.a ∧ p.x.a < 8 := ⟨hx.a0, by have := hx.a7; omega⟩
  have ha' : p.x.a.toNat + 1 ≤ 31 := by omega
  simp only [go_sem,Nat.reduceAdd,Nat.reduceSub,Nat.reduceMul,Nat.reduceEqDiff,Nat.reduceLeDiff,Nat.reduceLT,↓reduceIte,Int.reduceToNat,reduceCtorEq,Int.reduceLT,Int.reduceLE,Int.reduceGT,Int.reduceGE,Int.reduceEq,Int.reduceNe,Int.reduceNeg,Int.reduceAdd,Int.reduceSub,Pr.row]
  refine rK_use (enters_of Tryd.func111 rfl (by decide)) (load_c p hs dnil rfl p.old.r7 h7 8 (by decide) (by decide) hf) ?_
  simp only [go_sem,Nat.reduceAdd,Nat.reduceSub,Nat.reduceMul,Nat.reduceEqDiff,Nat.reduceLeDiff,Nat.reduceLT,↓reduceIte,Int.reduceToNat,reduceCtorEq,Int.reduceLT,Int.reduceLE,Int.reduceGT,Int.reduceGE,Int.reduceEq,Int.reduceNe,Int.reduceNeg,Int.reduceAdd,Int.reduceSub,Pr.row]
  refine draw [.qu 0 0, .qu 0 0, .qu 0 0, .qu 0 0, .qu 0 0, .qu 0 0, .qu 0 0, .qu 0 0, .qu 0 0, .qu 0 0, .qu 0 0, .qu 0 0, .mn 0] (by kernel_rfl) (by kernel_rfl) ?_
  simp only [go_sem,Nat.reduceAdd,Nat.reduceSub,Nat.reduceMul,Nat.reduceEqDiff,Nat.reduceLeDiff,Nat.reduceLT,↓reduceIte,Int.reduceToNat,reduceCtorEq,Int.reduceLT,Int.reduceLE,Int.reduceGT,Int.reduceGE,Int.reduceEq,Int.reduceNe,Int.reduceNeg,Int.reduceAdd,Int.reduceSub,Pr.row]
  exact fink rfl (Pr.row_lt ({ p with rg := { p.rg with pc := rdL (p.s.sub p.old.r7 8), r7 := iw .i64 (p.old.r7 + 8) } }) (d := dnil) (by first | rfl | simp [AV.lt]) 1) (by rw [← hpost]; exact ⟨rfl, rfl⟩)
theorem t13_c (p : Pr) (hx : p.x.ok) :
    ACalls Tryd.prog 120 [.ptr 0 0 0] [.rows 31 [p.row dnil]] (fun o H => o = .ret (.tuple []) ∧ H = [.rows 31 [({ p.set7 (iw .i64 (p.old.r7 - 8)) with pos := iw .i64 (p.old.r7 - 8) : Pr }).row (dby (stL 8 (p.old.get p.x.a)))]]) := by
  refine ACalls.up ?_
  refine ACalls.intro (cs := []) (n := 6) Tryd.func120 rfl rfl rfl (by kernel_rfl) rfl ?_
  generalize hpost : (fun (o : Out) (H : Heap) => o = Out.ret (.tuple []) ∧ H = [.rows 31 [Pr.row ({ p.set7 (iw .i64 (p.old.r7 - 8)) with pos := iw .i64 (p.old.r7 - 8) : Pr }) (dby (stL 8 (p.old.get p.x.a)))]]) = post
  have ha : 0 ≤ p.x.a ∧ p.x.a < 8 := ⟨hx.a0, by have := hx.a7; omega⟩
  have ha' : p.x.a.toNat + 1 ≤ 31 := by omega
  simp only [go_sem,Nat.reduceAdd,Nat.reduceSub,Nat.reduceMul,Nat.reduceEqDiff,Nat.reduceLeDiff,Nat.reduceLT,↓reduceIte,Int.reduceToNat,reduceCtorEq,Int.reduceLT,Int.reduceLE,Int.reduceGT,Int.reduceGE,Int.reduceEq,Int.reduceNe,Int.reduceNeg,Int.reduceAdd,Int.reduceSub]
  refine rK_use (enters_of Tryd.func97 rfl (by decide)) (a_c p hx dnil rfl) ?_
  simp only [go_sem,Nat.reduceAdd,Nat.reduceSub,Nat.reduceMul,Nat.reduceEqDiff,Nat.reduceLeDiff,Nat.reduceLT,↓reduceIte,Int.reduceToNat,reduceCtorEq,Int.reduceLT,Int.reduceLE,Int.reduceGT,Int.reduceGE,Int.reduceEq,Int.reduceNe,Int.reduceNeg,Int.reduceAdd,Int.reduceSub]
  refine rK_use (enters_of Tryd.func117 rfl (by decide)) (push_c p _) ?_
  simp only [go_sem,Nat.reduceAdd,Nat.reduceSub,Nat.reduceMul,Nat.reduceEqDiff,Nat.reduceLeDiff,Nat.reduceLT,↓reduceIte,Int.reduceToNat,reduceCtorEq,Int.reduceLT,Int.reduceLE,Int.reduceGT,Int.reduceGE,Int.reduceEq,Int.reduceNe,Int.reduceNeg,Int.reduceAdd,Int.reduceSub]
  exact fink rfl (Pr.row_lt ({ p.set7 (iw .i64 (p.old.r7 - 8)) with pos := iw .i64 (p.old.r7 - 8) : Pr }) (d := (dby (stL 8 (p.old.get p.x.a)))) (by first | rfl | simp [AV.lt]) 1) (by rw [← hpost]; exact ⟨rfl, rfl⟩)
theorem t14_c (p : Pr) (hx : p.x.ok) (hs : p.s.ok) (h7 : I64 p.old.r7) (hf : (p.s.flt p.old.r7 0 8 0).kind = 0) :
    ACalls Tryd.prog 121 [.ptr 0 0 0] [.rows 31 [p.row dnil]] (fun o H => o = .ret (.tuple []) ∧ H = [.rows 31 [((p.set7 (iw .i64 (p.old.r7 + 8))).setA (rdL (p.s.sub p.old.r7 8))).row dnil]]) := by
  refine ACalls.up ?_
  refine ACalls.intro (cs := []) (n := 32) Tryd.func121 rfl rfl rfl (by kernel_rfl) rfl ?_
  generalize hpost : (fun (o : Out) (H : Heap) => o = Out.ret (.tuple []) ∧ H = [.rows 31 [Pr.row ((p.set7 (iw .i64 (p.old.r7 + 8))).setA (rdL (p.s.sub p.old.r7 8))) dnil]]) = post
  have ha : 0 ≤ p.x.a ∧ p.x.a < 8 := ⟨hx.a0, by have := hx.a7; omega⟩
  have ha' : p.x.a.toNat + 1 ≤ 31 := by omega
  simp only [go_sem,Nat.reduceAdd,Nat.reduceSub,Nat.reduceMul,Nat.reduceEqDiff,Nat.reduceLeDiff,Nat.reduceLT,↓reduceIte,Int.reduceToNat,reduceCtorEq,Int.reduceLT,Int.reduceLE,Int.reduceGT,Int.reduceGE,Int.reduceEq,Int.reduceNe,Int.reduceNeg,Int.reduceAdd,Int.reduceSub,Pr.row]
  refine draw [.qu 0 0, .qu 0 0, .qu 0 0, .qu 0 0, .qu 0 0, .qu 0 0, .qu 0 0, .qu 0 0, .qu 0 0, .qu 0 0, .qu 0 0, .qu 0 0, .mn 0] (by kernel_rfl) (by kernel_rfl) ?_
  simp only [go_sem,Nat.reduceAdd,Nat.reduceSub,Nat.reduceMul,Nat.reduceEqDiff,Nat.reduceLeDiff,Nat.reduceLT,↓reduceIte,Int.reduceToNat,reduceCtorEq,Int.reduceLT,Int.reduceLE,Int.reduceGT,Int.reduceGE,Int.reduceEq,Int.reduceNe,Int.reduceNeg,Int.reduceAdd,Int.reduceSub,Pr.row]
  refine draw [.qu 0 1, .qu 0 1, .qu 0 1, .qu 0 1, .qu 0 1, .rd 0 1, .qu 0 0, .qu 0 0, .qu 0 0, .qu 0 0, .qu 0 0, .qu 0 0, .qu 0 0, .mn 0, .qu 0 1, .qu 0 1, .qu 0 1, .qu 1 1, .mn 1] (by kernel_rfl) (by kernel_rfl) ?_
  simp only [go_sem,Nat.reduceAdd,Nat.reduceSub,Nat.reduceMul,Nat.reduceEqDiff,Nat.reduceLeDiff,Nat.reduceLT,↓reduceIte,Int.reduceToNat,reduceCtorEq,Int.reduceLT,Int.reduceLE,Int.reduceGT,Int.reduceGE,Int.reduceEq,Int.reduceNe,Int.reduceNeg,Int.reduceAdd,Int.reduceSub,Pr.row]
  refine dM_call (enters_of Tryd.func111 rfl (by decide)) (load_c (p.set7 (iw .i64 (p.old.r7 + 8))) hs dnil rfl p.old.r7 h7 8 (by decide) (by decide) hf) ?_
  simp only [go_sem,Nat.reduceAdd,Nat.reduceSub,Nat.reduceMul,Nat.reduceEqDiff,Nat.reduceLeDiff,Nat.reduceLT,↓reduceIte,Int.reduceToNat,reduceCtorEq,Int.reduceLT,Int.reduceLE,Int.reduceGT,Int.reduceGE,Int.reduceEq,Int.reduceNe,Int.reduceNeg,Int.reduceAdd,Int.reduceSub,Pr.row,Pr.set7,ha,ha',wr0 ha.1 ha.2]
  exact fink rfl (Pr.row_lt ((p.set7 (iw .i64 (p.old.r7 + 8))).setA (rdL (p.s.sub p.old.r7 8))) (d := dnil) (by first | rfl | simp [AV.lt]) 1) (by rw [← hpost]; exact ⟨rfl, rfl⟩)
theorem t15_c (p : Pr) (hx : p.x.ok) :
    ACalls Tryd.prog 122 [.ptr 0 0 0] [.rows 31 [p.row dnil]] (fun o H => o = .ret (.tuple []) ∧ H = [.rows 31 [(p.setA (iw .i64 (p.next + p.x.imm))).row dnil]]) := by
  refine ACalls.up ?_
  refine ACalls.intro (cs := []) (n := 22) Tryd.func122 rfl rfl rfl (by kernel_rfl) rfl ?_
  generalize hpost : (fun (o : Out) (H : Heap) => o = Out.ret (.tuple []) ∧ H = [.rows 31 [Pr.row (p.setA (iw .i64 (p.next + p.x.imm))) dnil]]) = post
  have ha : 0 ≤ p.x.a ∧ p.x.a < 8 := ⟨hx.a0, by have := hx.a7; omega⟩
  have ha' : p.x.a.toNat + 1 ≤ 31 := by omega
  simp only [go_sem,Nat.reduceAdd,Nat.reduceSub,Nat.reduceMul,Nat.reduceEqDiff,Nat.reduceLeDiff,Nat.reduceLT,↓reduceIte,Int.reduceToNat,reduceCtorEq,Int.reduceLT,Int.reduceLE,Int.reduceGT,Int.reduceGE,Int.reduceEq,Int.reduceNe,Int.reduceNeg,Int.reduceAdd,Int.reduceSub]
  refine draw [.qu 0 0, .qu 0 0, .qu 0 0, .qu 0 0, .qu 0 0, .qu 0 0, .qu 0 0, .qu 0 0, .qu 0 0, .qu 0 0, .qu 0 0, .qu 0 0, .qu 0 0, .qu 0 0, .qu 0 0, .qu 0 0, .qu 0 0, .qu 0 0, .qu 0 0, .qu 0 0, .mn 0] (by kernel_rfl) (by kernel_rfl) ?_
  simp only [go_sem,Nat.reduceAdd,Nat.reduceSub,Nat.reduceMul,Nat.reduceEqDiff,Nat.reduceLeDiff,Nat.reduceLT,↓reduceIte,Int.reduceToNat,reduceCtorEq,Int.reduceLT,Int.reduceLE,Int.reduceGT,Int.reduceGE,Int.reduceEq,Int.reduceNe,Int.reduceNeg,Int.reduceAdd,Int.reduceSub,Pr.row,ha,ha',wr0 ha.1 ha.2]
  exact fink rfl (Pr.row_lt (p.setA (iw .i64 (p.next + p.x.imm))) (d := dnil) (by first | rfl | simp [AV.lt]) 1) (by rw [← hpost]; exact ⟨rfl, rfl⟩)
theorem t16_c (p : Pr) (hx : p.x.ok) (hi : iw .i64 p.x.imm = p.x.imm) :
    ACalls Tryd.prog 123 [.ptr 0 0 0] [.rows 31 [p.row dnil]] (fun o H => o = .ret (.tuple []) ∧ H = [.rows 31 [({ p with tk := 1, tn := p.x.imm }).row dnil]]) := by
  refine ACalls.up ?_
  refine ACalls.intro (cs := []) (n := 11) Tryd.func123 rfl rfl rfl (by kernel_rfl) rfl ?_
  generalize hpost : (fun (o : Out) (H : Heap) => o = Out.ret (.tuple []) ∧ H = [.rows 31 [Pr.row ({ p with tk := 1, tn := p.x.imm }) dnil]]) = post
  have ha : 0 ≤ p.x.a ∧ p.x.a < 8 := ⟨hx.a0, by have := hx.a7; omega⟩
  have ha' : p.x.a.toNat + 1 ≤ 31 := by omega
  simp only [go_sem,Nat.reduceAdd,Nat.reduceSub,Nat.reduceMul,Nat.reduceEqDiff,Nat.reduceLeDiff,Nat.reduceLT,↓reduceIte,Int.reduceToNat,reduceCtorEq,Int.reduceLT,Int.reduceLE,Int.reduceGT,Int.reduceGE,Int.reduceEq,Int.reduceNe,Int.reduceNeg,Int.reduceAdd,Int.reduceSub,Pr.row,hi]
  exact fink rfl (Pr.row_lt ({ p with tk := 1, tn := p.x.imm }) (d := dnil) (by first | rfl | simp [AV.lt]) 1) (by rw [← hpost]; exact ⟨rfl, rfl⟩)
theorem t17_c (p : Pr) (hx : p.x.ok) (hs : p.s.ok) (hb : I64 (p.old.get p.x.b)) (hf : (p.s.flt (p.old.get p.x.b) 0 8 0).kind = 0) :
    ACalls Tryd.prog 124 [.ptr 0 0 0] [.rows 31 [p.row dnil]] (fun o H => o = .ret (.tuple []) ∧ H = [.rows 31 [(({ p with pos := p.old.get p.x.b : Pr }).setA (rdL (p.s.sub (p.old.get p.x.b) 8))).row (dby (stL 8 (p.old.get p.x.a)))]]) := by
  refine ACalls.up ?_
  refine ACalls.intro (cs := []) (n := 22) Tryd.func124 rfl rfl rfl (by kernel_rfl) rfl ?_
  generalize hpost : (fun (o : Out) (H : Heap) => o = Out.ret (.tuple []) ∧ H = [.rows 31 [Pr.row (({ p with pos := p.old.get p.x.b : Pr }).setA (rdL (p.s.sub (p.old.get p.x.b) 8))) (dby (stL 8 (p.old.get p.x.a)))]]) = post
  have ha : 0 ≤ p.x.a ∧ p.x.a < 8 := ⟨hx.a0, by have := hx.a7; omega⟩
  have ha' : p.x.a.toNat + 1 ≤ 31 := by omega
  simp only [go_sem,Nat.reduceAdd,Nat.reduceSub,Nat.reduceMul,Nat.reduceEqDiff,Nat.reduceLeDiff,Nat.reduceLT,↓reduceIte,Int.reduceToNat,reduceCtorEq,Int.reduceLT,Int.reduceLE,Int.reduceGT,Int.reduceGE,Int.reduceEq,Int.reduceNe,Int.reduceNeg,Int.reduceAdd,Int.reduceSub]
  refine rK_use (enters_of Tryd.func98 rfl (by decide)) (b_c p hx dnil rfl) ?_
  simp only [go_sem,Nat.reduceAdd,Nat.reduceSub,Nat.reduceMul,Nat.reduceEqDiff,Nat.reduceLeDiff,Nat.reduceLT,↓reduceIte,Int.reduceToNat,reduceCtorEq,Int.reduceLT,Int.reduceLE,Int.reduceGT,Int.reduceGE,Int.reduceEq,Int.reduceNe,Int.reduceNeg,Int.reduceAdd,Int.reduceSub]
  refine rK_use (enters_of Tryd.func97 rfl (by decide)) (a_c p hx dnil rfl) ?_
  simp only [go_sem,Nat.reduceAdd,Nat.reduceSub,Nat.reduceMul,Nat.reduceEqDiff,Nat.reduceLeDiff,Nat.reduceLT,↓reduceIte,Int.reduceToNat,reduceCtorEq,Int.reduceLT,Int.reduceLE,Int.reduceGT,Int.reduceGE,Int.reduceEq,Int.reduceNe,Int.reduceNeg,Int.reduceAdd,Int.reduceSub]
  refine rK_use (enters_of Tryd.func114 rfl (by decide)) (store_c p _ _ 8 (by decide)) ?_
  simp only [go_sem,Nat.reduceAdd,Nat.reduceSub,Nat.reduceMul,Nat.reduceEqDiff,Nat.reduceLeDiff,Nat.reduceLT,↓reduceIte,Int.reduceToNat,reduceCtorEq,Int.reduceLT,Int.reduceLE,Int.reduceGT,Int.reduceGE,Int.reduceEq,Int.reduceNe,Int.reduceNeg,Int.reduceAdd,Int.reduceSub]
  refine draw [.qu 0 2, .qu 0 2, .qu 0 2, .qu 0 2, .qu 0 2, .rd 0 2, .qu 0 1, .qu 0 0, .mn 0, .mn 1, .qu 0 2, .qu 0 2, .qu 0 2, .qu 2 2, .mn 2] (by kernel_rfl) (by kernel_rfl) ?_
  simp only [go_sem,Nat.reduceAdd,Nat.reduceSub,Nat.reduceMul,Nat.reduceEqDiff,Nat.reduceLeDiff,Nat.reduceLT,↓reduceIte,Int.reduceToNat,reduceCtorEq,Int.reduceLT,Int.reduceLE,Int.reduceGT,Int.reduceGE,Int.reduceEq,Int.reduceNe,Int.reduceNeg,Int.reduceAdd,Int.reduceSub,Pr.row]
  refine dM_call (enters_of Tryd.func98 rfl (by decide)) (b_c ({ p with pos := p.old.get p.x.b : Pr }) hx (dby (stL 8 (p.old.get p.x.a))) (by simp [AV.lt])) ?_
  simp only [go_sem,Nat.reduceAdd,Nat.reduceSub,Nat.reduceMul,Nat.reduceEqDiff,Nat.reduceLeDiff,Nat.reduceLT,↓reduceIte,Int.reduceToNat,reduceCtorEq,Int.reduceLT,Int.reduceLE,Int.reduceGT,Int.reduceGE,Int.reduceEq,Int.reduceNe,Int.reduceNeg,Int.reduceAdd,Int.reduceSub,Pr.row]
  refine dM_call (enters_of Tryd.func111 rfl (by decide)) (load_c ({ p with pos := p.old.get p.x.b : Pr }) hs (dby (stL 8 (p.old.get p.x.a))) (by simp [AV.lt]) _ hb 8 (by decide) (by decide) hf) ?_
  simp only [go_sem,Nat.reduceAdd,Nat.reduceSub,Nat.reduceMul,Nat.reduceEqDiff,Nat.reduceLeDiff,Nat.reduceLT,↓reduceIte,Int.reduceToNat,reduceCtorEq,Int.reduceLT,Int.reduceLE,Int.reduceGT,Int.reduceGE,Int.reduceEq,Int.reduceNe,Int.reduceNeg,Int.reduceAdd,Int.reduceSub,Pr.row,ha,ha',wr0 ha.1 ha.2]
  exact fink rfl (Pr.row_lt (({ p with pos := p.old.get p.x.b : Pr }).setA (rdL (p.s.sub (p.old.get p.x.b) 8))) (d := (dby (stL 8 (p.old.get p.x.a)))) (by first | rfl | simp [AV.lt]) 1) (by rw [← hpost]; exact ⟨rfl, rfl⟩)
theorem t18_c (p : Pr) :
    ACalls Tryd.prog 125 [.ptr 0 0 0] [.rows 31 [p.row dnil]] (fun o H => o = .pan (.iface 135 (.agg [iv 2, iv 0, iv 0, iv 0])) ∧ H = [.rows 31 [p.row dnil]]) := by
  refine ACalls.up ?_
  refine ACalls.intro (cs := []) (n := 5) Tryd.func125 rfl rfl rfl (by kernel_rfl) rfl ?_
  simp only [go_sem,Nat.reduceAdd,Nat.reduceSub,Nat.reduceMul,Nat.reduceEqDiff,Nat.reduceLeDiff,Nat.reduceLT,↓reduceIte,Int.reduceToNat,reduceCtorEq,Int.reduceLT,Int.reduceLE,Int.reduceGT,Int.reduceGE,Int.reduceEq,Int.reduceNe,Int.reduceNeg,Int.reduceAdd,Int.reduceSub]
  exact .done ⟨rfl, rfl⟩
end Go.Proofs.YtojfnagfafoiaaaDoor
