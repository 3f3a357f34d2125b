/- Sched: Same. No condition. -/
import Derived.Test.YtljepmbikbdicaaSD
set_option maxRecDepth 100000
set_option linter.unusedVariables false
set_option linter.unusedSimpArgs false
namespace Go.Proofs.Ytljepmbikbdicaa
open Go.AM
def eqL {α : Type} (f : α → α → Bool) : List α → List α → Bool
  | [], [] => true
  | x :: xs, y :: ys => f x y && eqL f xs ys
  | _, _ => false
theorem eqL_len {α : Type} {f : α → α → Bool} : ∀ {a b : List α}, a.length ≠ b.length → eqL f a b = false
  | [], [], h => absurd rfl h
  | [], _ :: _, _ => rfl
  | _ :: _, [], _ => rfl
  | x :: a, y :: b, h => by simp only [eqL]; rw [eqL_len (fun e => h (by simp [e]))]; simp
theorem eqL_iff {α : Type} {f : α → α → Bool} (hf : ∀ x y, f x y = true ↔ x = y) : ∀ {a b : List α}, eqL f a b = true ↔ a = b
  | [], [] => by simp [eqL]
  | [], _ :: _ => by simp [eqL]
  | _ :: _, [] => by simp [eqL]
  | x :: a, y :: b => by simp [eqL, hf, eqL_iff hf]
theorem eqL_drop {α : Type} {f : α → α → Bool} {a b : List α} {i : Nat} {x y : α} (hx : a[i]? = some x) (hy : b[i]? = some y) : eqL f (a.drop i) (b.drop i) = (f x y && eqL f (a.drop (i + 1)) (b.drop (i + 1))) := by
  rw [drop_at hx, drop_at hy, eqL]
def eqI (a b : Int) : Bool := decide (a = b)
theorem eqints_c (l1 l2 : List Int) (f1 f2 : Bool) : ACalls Try.prog 76 [.view f1 1 (l1.map r1), .view f2 1 (l2.map r1)] [] (fun o H => o = .ret (.bool (eqL eqI l1 l2)) ∧ H = []) := by
  refine ACalls.small fun hsm => ?_
  simp only [smallL, AV.small, List.length_map, maxLen] at hsm
  refine ACalls.intro (cs := []) (n := 26) Try.func76 rfl rfl rfl (by kernel_rfl) rfl ?_
  simp only [go_sem, Nat.reduceAdd, Nat.reduceSub, Nat.reduceMul, Nat.reduceEqDiff, Nat.reduceLeDiff, Nat.reduceLT, ↓reduceIte, Int.reduceToNat, reduceCtorEq, Int.cast_ofNat_Int, Int.reduceLT, Int.reduceLE, Int.reduceGT, Int.reduceGE, Int.reduceEq, Int.reduceNe, Int.reduceNeg, Int.reduceAdd, Int.reduceSub, Int.le_refl, List.length_map]
  refine condD_dec (fun hl => ?_) (fun hl => ?_)
  · simp only [go_sem, Nat.reduceAdd, Nat.reduceSub, Nat.reduceMul, Nat.reduceEqDiff, Nat.reduceLeDiff, Nat.reduceLT, ↓reduceIte, Int.reduceToNat, reduceCtorEq, Int.cast_ofNat_Int, Int.reduceLT, Int.reduceLE, Int.reduceGT, Int.reduceGE, Int.reduceEq, Int.reduceNe, Int.reduceNeg, Int.reduceAdd, Int.reduceSub, Int.le_refl]
    rw [eqL_len (by omega)]
  have hl : l1.length = l2.length := by omega
  simp only [go_sem, Nat.reduceAdd, Nat.reduceSub, Nat.reduceMul, Nat.reduceEqDiff, Nat.reduceLeDiff, Nat.reduceLT, ↓reduceIte, Int.reduceToNat, reduceCtorEq, Int.cast_ofNat_Int, Int.reduceLT, Int.reduceLE, Int.reduceGT, Int.reduceGE, Int.reduceEq, Int.reduceNe, Int.reduceNeg, Int.reduceAdd, Int.reduceSub, Int.le_refl, List.length_map]
  refine loop_fam (fun i : Nat => (((Ch.nil.put 0 (.view f1 1 (l1.map r1))).put 1 (.view f2 1 (l2.map r1))).put 12 (iv l1.length)).put 13 (iv i)) (fun _ => []) (fun i => l1.length - i) (fun i => i ≤ l1.length ∧ eqL eqI l1 l2 = eqL eqI (l1.drop i) (l2.drop i)) 0 (by kernel_rfl) ⟨Nat.zero_le _, by simp⟩ (Wk.slots' rfl (by simp [wkS, Ch.get])) ?_
  rintro i ⟨hi, hx⟩ K hK
  simp only [go_sem, Nat.reduceAdd, Nat.reduceSub, Nat.reduceMul, Nat.reduceEqDiff, Nat.reduceLeDiff, Nat.reduceLT, ↓reduceIte, Int.reduceToNat, reduceCtorEq, Int.cast_ofNat_Int, Int.reduceLT, Int.reduceLE, Int.reduceGT, Int.reduceGE, Int.reduceEq, Int.reduceNe, Int.reduceNeg, Int.reduceAdd, Int.reduceSub, Int.le_refl]
  refine condD_dec (fun hc => ?_) (fun hc => ?_)
  · have hc' : i < l1.length := by omega
    have hc2 : i < l2.length := by omega
    have hc3 : (i : Int) < l2.length := by omega
    obtain ⟨x, hx1⟩ := at_lt hc'
    obtain ⟨y, hy1⟩ := at_lt hc2
    have e1 : iw .i64 ((i : Int) + 1) = ((i + 1 : Nat) : Int) := by rw [iw64] <;> omega
    rw [eqL_drop hx1 hy1] at hx
    simp only [go_sem, Nat.reduceAdd, Nat.reduceSub, Nat.reduceMul, Nat.reduceEqDiff, Nat.reduceLeDiff, Nat.reduceLT, ↓reduceIte, Int.reduceToNat, reduceCtorEq, Int.cast_ofNat_Int, Int.reduceLT, Int.reduceLE, Int.reduceGT, Int.reduceGE, Int.reduceEq, Int.reduceNe, Int.reduceNeg, Int.reduceAdd, Int.reduceSub, Int.le_refl]
    refine draw [.qu 0 0, .qu 0 0, .qu 0 0, .qu 0 0, .qu 0 0, .qu 0 0, .qu 0 0, .qu 0 0, .qu 0 0] (by kernel_rfl) (by kernel_rfl) ?_
    simp only [go_sem, Nat.reduceAdd, Nat.reduceSub, Nat.reduceMul, Nat.reduceEqDiff, Nat.reduceLeDiff, Nat.reduceLT, ↓reduceIte, Int.reduceToNat, reduceCtorEq, Int.cast_ofNat_Int, Int.reduceLT, Int.reduceLE, Int.reduceGT, Int.reduceGE, Int.reduceEq, Int.reduceNe, Int.reduceNeg, Int.reduceAdd, Int.reduceSub, Int.le_refl, List.length_map, List.getElem?_map, hx1, hy1, hc, hc', hc2, hc3, Int.natCast_nonneg, true_and]
    refine condD_dec (fun hd => ?_) (fun hd => ?_)
    · simp only [go_sem, Nat.reduceAdd, Nat.reduceSub, Nat.reduceMul, Nat.reduceEqDiff, Nat.reduceLeDiff, Nat.reduceLT, ↓reduceIte, Int.reduceToNat, reduceCtorEq, Int.cast_ofNat_Int, Int.reduceLT, Int.reduceLE, Int.reduceGT, Int.reduceGE, Int.reduceEq, Int.reduceNe, Int.reduceNeg, Int.reduceAdd, Int.reduceSub, Int.le_refl]
      rw [hx]; simp [eqI, hd]
    · have : x = y := by omega
      simp only [go_sem, Nat.reduceAdd, Nat.reduceSub, Nat.reduceMul, Nat.reduceEqDiff, Nat.reduceLeDiff, Nat.reduceLT, ↓reduceIte, Int.reduceToNat, reduceCtorEq, Int.cast_ofNat_Int, Int.reduceLT, Int.reduceLE, Int.reduceGT, Int.reduceGE, Int.reduceEq, Int.reduceNe, Int.reduceNeg, Int.reduceAdd, Int.reduceSub, Int.le_refl, e1]
      exact hK (i + 1) _ _ ⟨hc', by rw [hx]; simp [eqI, this]⟩ (by omega) (Wk.slots' rfl (by simp [wkS, Ch.get]))
  · simp only [go_sem, Nat.reduceAdd, Nat.reduceSub, Nat.reduceMul, Nat.reduceEqDiff, Nat.reduceLeDiff, Nat.reduceLT, ↓reduceIte, Int.reduceToNat, reduceCtorEq, Int.cast_ofNat_Int, Int.reduceLT, Int.reduceLE, Int.reduceGT, Int.reduceGE, Int.reduceEq, Int.reduceNe, Int.reduceNeg, Int.reduceAdd, Int.reduceSub, Int.le_refl]
    have d1 : l1.drop i = [] := by simp; omega
    have d2 : l2.drop i = [] := by simp; omega
    rw [hx, d1, d2, eqL]
def T.eq (a b : T) : Bool := decide (a.pri = b.pri) && (decide (a.cpu = b.cpu) && decide (a.st = b.st))
theorem eqslots_c (l1 l2 : List T) (f1 f2 : Bool) : ACalls Try.prog 73 [.view f1 3 (l1.map T.row), .view f2 3 (l2.map T.row)] [] (fun o H => o = .ret (.bool (eqL T.eq l1 l2)) ∧ H = []) := by
  refine ACalls.small fun hsm => ?_
  simp only [smallL, AV.small, List.length_map, maxLen] at hsm
  refine ACalls.intro (cs := []) (n := 26) Try.func73 rfl rfl rfl (by kernel_rfl) rfl ?_
  simp only [go_sem, Nat.reduceAdd, Nat.reduceSub, Nat.reduceMul, Nat.reduceEqDiff, Nat.reduceLeDiff, Nat.reduceLT, ↓reduceIte, Int.reduceToNat, reduceCtorEq, Int.cast_ofNat_Int, Int.reduceLT, Int.reduceLE, Int.reduceGT, Int.reduceGE, Int.reduceEq, Int.reduceNe, Int.reduceNeg, Int.reduceAdd, Int.reduceSub, Int.le_refl, List.length_map]
  refine condD_dec (fun hl => ?_) (fun hl => ?_)
  · simp only [go_sem, Nat.reduceAdd, Nat.reduceSub, Nat.reduceMul, Nat.reduceEqDiff, Nat.reduceLeDiff, Nat.reduceLT, ↓reduceIte, Int.reduceToNat, reduceCtorEq, Int.cast_ofNat_Int, Int.reduceLT, Int.reduceLE, Int.reduceGT, Int.reduceGE, Int.reduceEq, Int.reduceNe, Int.reduceNeg, Int.reduceAdd, Int.reduceSub, Int.le_refl]
    rw [eqL_len (by omega)]
  have hl : l1.length = l2.length := by omega
  simp only [go_sem, Nat.reduceAdd, Nat.reduceSub, Nat.reduceMul, Nat.reduceEqDiff, Nat.reduceLeDiff, Nat.reduceLT, ↓reduceIte, Int.reduceToNat, reduceCtorEq, Int.cast_ofNat_Int, Int.reduceLT, Int.reduceLE, Int.reduceGT, Int.reduceGE, Int.reduceEq, Int.reduceNe, Int.reduceNeg, Int.reduceAdd, Int.reduceSub, Int.le_refl, List.length_map]
  refine loop_fam (fun i : Nat => (((Ch.nil.put 0 (.view f1 3 (l1.map T.row))).put 1 (.view f2 3 (l2.map T.row))).put 12 (iv l1.length)).put 13 (iv i)) (fun _ => []) (fun i => l1.length - i) (fun i => i ≤ l1.length ∧ eqL T.eq l1 l2 = eqL T.eq (l1.drop i) (l2.drop i)) 0 (by kernel_rfl) ⟨Nat.zero_le _, by simp⟩ (Wk.slots' rfl (by simp [wkS, Ch.get])) ?_
  rintro i ⟨hi, hx⟩ K hK
  simp only [go_sem, Nat.reduceAdd, Nat.reduceSub, Nat.reduceMul, Nat.reduceEqDiff, Nat.reduceLeDiff, Nat.reduceLT, ↓reduceIte, Int.reduceToNat, reduceCtorEq, Int.cast_ofNat_Int, Int.reduceLT, Int.reduceLE, Int.reduceGT, Int.reduceGE, Int.reduceEq, Int.reduceNe, Int.reduceNeg, Int.reduceAdd, Int.reduceSub, Int.le_refl]
  refine condD_dec (fun hc => ?_) (fun hc => ?_)
  · have hc' : i < l1.length := by omega
    have hc2 : i < l2.length := by omega
    have hc3 : (i : Int) < l2.length := by omega
    obtain ⟨x, hx1⟩ := at_lt hc'
    obtain ⟨y, hy1⟩ := at_lt hc2
    have e1 : iw .i64 ((i : Int) + 1) = ((i + 1 : Nat) : Int) := by rw [iw64] <;> omega
    rw [eqL_drop hx1 hy1] at hx
    simp only [go_sem, Nat.reduceAdd, Nat.reduceSub, Nat.reduceMul, Nat.reduceEqDiff, Nat.reduceLeDiff, Nat.reduceLT, ↓reduceIte, Int.reduceToNat, reduceCtorEq, Int.cast_ofNat_Int, Int.reduceLT, Int.reduceLE, Int.reduceGT, Int.reduceGE, Int.reduceEq, Int.reduceNe, Int.reduceNeg, Int.reduceAdd, Int.reduceSub, Int.le_refl]
    refine draw [.qu 0 0, .qu 0 0, .qu 0 0, .qu 0 0, .qu 0 0, .qu 0 0, .qu 0 0, .qu 0 0, .qu 0 0] (by kernel_rfl) (by kernel_rfl) ?_
    simp only [go_sem, Nat.reduceAdd, Nat.reduceSub, Nat.reduceMul, Nat.reduceEqDiff, Nat.reduceLeDiff, Nat.reduceLT, ↓reduceIte, Int.reduceToNat, reduceCtorEq, Int.cast_ofNat_Int, Int.reduceLT, Int.reduceLE, Int.reduceGT, Int.reduceGE, Int.reduceEq, Int.reduceNe, Int.reduceNeg, Int.reduceAdd, Int.reduceSub, Int.le_refl, List.length_map, List.getElem?_map, hx1, hy1, hc, hc', hc2, hc3, Int.natCast_nonneg, true_and, T.row]
    have hb : (!(decide (x.pri = y.pri) && (decide (x.cpu = y.cpu) && decide (x.st = y.st)))) = !(T.eq x y) := rfl
    rw [hb]
    cases hxy : T.eq x y
    · simp only [go_sem, Nat.reduceAdd, Nat.reduceSub, Nat.reduceMul, Nat.reduceEqDiff, Nat.reduceLeDiff, Nat.reduceLT, ↓reduceIte, Int.reduceToNat, reduceCtorEq, Int.cast_ofNat_Int, Int.reduceLT, Int.reduceLE, Int.reduceGT, Int.reduceGE, Int.reduceEq, Int.reduceNe, Int.reduceNeg, Int.reduceAdd, Int.reduceSub, Int.le_refl]
      rw [hx]; simp [hxy]
    · simp only [go_sem, Nat.reduceAdd, Nat.reduceSub, Nat.reduceMul, Nat.reduceEqDiff, Nat.reduceLeDiff, Nat.reduceLT, ↓reduceIte, Int.reduceToNat, reduceCtorEq, Int.cast_ofNat_Int, Int.reduceLT, Int.reduceLE, Int.reduceGT, Int.reduceGE, Int.reduceEq, Int.reduceNe, Int.reduceNeg, Int.reduceAdd, Int.reduceSub, Int.le_refl, e1]
      exact hK (i + 1) _ _ ⟨hc', by rw [hx]; simp [hxy]⟩ (by omega) (Wk.slots' rfl (by simp [wkS, Ch.get]))
  · simp only [go_sem, Nat.reduceAdd, Nat.reduceSub, Nat.reduceMul, Nat.reduceEqDiff, Nat.reduceLeDiff, Nat.reduceLT, ↓reduceIte, Int.reduceToNat, reduceCtorEq, Int.cast_ofNat_Int, Int.reduceLT, Int.reduceLE, Int.reduceGT, Int.reduceGE, Int.reduceEq, Int.reduceNe, Int.reduceNeg, Int.reduceAdd, Int.reduceSub, Int.le_refl]
    have d1 : l1.drop i = [] := by simp; omega
    have d2 : l2.drop i = [] := by simp; omega
    rw [hx, d1, d2, eqL]
def Q.eq (a b : Q) : Bool := decide (a.run = b.run) && (decide (a.left = b.left) && eqL eqI a.ready b.ready)
theorem same1_c (a b : Q) : ACalls Try.prog 75 [.agg a.row, .agg b.row] [] (fun o H => o = .ret (.bool (a.eq b)) ∧ H = []) := by
  refine ACalls.up ?_
  refine ACalls.intro (cs := []) (n := 24) Try.func75 rfl rfl rfl (by kernel_rfl) rfl ?_
  have fin : ∀ v H, v = a.eq b → Up 0 (fun (o : Out) (H : Heap) => o = Out.ret (.bool (a.eq b)) ∧ H = []) (.ret (.bool v)) H := fun v H e => by subst e; exact up_bool ⟨rfl, rfl⟩
  generalize (fun (o : Out) (H : Heap) => o = Out.ret (.bool (a.eq b)) ∧ H = []) = post at fin ⊢
  simp only [go_sem, Nat.reduceAdd, Nat.reduceSub, Nat.reduceMul, Nat.reduceEqDiff, Nat.reduceLeDiff, Nat.reduceLT, ↓reduceIte, Int.reduceToNat, reduceCtorEq, Int.cast_ofNat_Int, Int.reduceLT, Int.reduceLE, Int.reduceGT, Int.reduceGE, Int.reduceEq, Int.reduceNe, Int.reduceNeg, Int.reduceAdd, Int.reduceSub, Int.le_refl, Q.row]
  refine gD_dec (fun h1 => ?_) (fun h1 => ?_) <;> simp only [go_sem, Nat.reduceAdd, Nat.reduceSub, Nat.reduceMul, Nat.reduceEqDiff, Nat.reduceLeDiff, Nat.reduceLT, ↓reduceIte, Int.reduceToNat, reduceCtorEq, Int.cast_ofNat_Int, Int.reduceLT, Int.reduceLE, Int.reduceGT, Int.reduceGE, Int.reduceEq, Int.reduceNe, Int.reduceNeg, Int.reduceAdd, Int.reduceSub, Int.le_refl, h1]
  · refine gD_dec (fun h2 => ?_) (fun h2 => ?_) <;> simp only [go_sem, Nat.reduceAdd, Nat.reduceSub, Nat.reduceMul, Nat.reduceEqDiff, Nat.reduceLeDiff, Nat.reduceLT, ↓reduceIte, Int.reduceToNat, reduceCtorEq, Int.cast_ofNat_Int, Int.reduceLT, Int.reduceLE, Int.reduceGT, Int.reduceGE, Int.reduceEq, Int.reduceNe, Int.reduceNeg, Int.reduceAdd, Int.reduceSub, Int.le_refl, h2]
    · refine rK_use (enters_of Try.func76 rfl (by decide)) (ACalls.pure_use (eqints_c a.ready b.ready false false) rfl rfl) ?_
      simp only [go_sem, Nat.reduceAdd, Nat.reduceSub, Nat.reduceMul, Nat.reduceEqDiff, Nat.reduceLeDiff, Nat.reduceLT, ↓reduceIte, Int.reduceToNat, reduceCtorEq, Int.cast_ofNat_Int, Int.reduceLT, Int.reduceLE, Int.reduceGT, Int.reduceGE, Int.reduceEq, Int.reduceNe, Int.reduceNeg, Int.reduceAdd, Int.reduceSub, Int.le_refl]
      exact fin _ _ (by simp [Q.eq, h1, h2])
    · exact fin _ _ (by simp [Q.eq, h1, h2])
  · exact fin _ _ (by simp [Q.eq, h1])
theorem eqcpus_c (l1 l2 : List Q) (f1 f2 : Bool) : ACalls Try.prog 74 [.view f1 3 (l1.map Q.row), .view f2 3 (l2.map Q.row), .func (.func 75) [] []] [] (fun o H => o = .ret (.bool (eqL Q.eq l1 l2)) ∧ H = []) := by
  refine ACalls.small fun hsm => ?_
  simp only [smallL, AV.small, List.length_map, maxLen] at hsm
  refine ACalls.up ?_
  refine ACalls.intro (cs := []) (n := 32) Try.func74 rfl rfl rfl (by kernel_rfl) rfl ?_
  have fin : ∀ v H, v = eqL Q.eq l1 l2 → Up 0 (fun (o : Out) (H : Heap) => o = Out.ret (.bool (eqL Q.eq l1 l2)) ∧ H = []) (.ret (.bool v)) H := fun v H e => by subst e; exact up_bool ⟨rfl, rfl⟩
  generalize (fun (o : Out) (H : Heap) => o = Out.ret (.bool (eqL Q.eq l1 l2)) ∧ H = []) = post at fin ⊢
  simp only [go_sem, Nat.reduceAdd, Nat.reduceSub, Nat.reduceMul, Nat.reduceEqDiff, Nat.reduceLeDiff, Nat.reduceLT, ↓reduceIte, Int.reduceToNat, reduceCtorEq, Int.cast_ofNat_Int, Int.reduceLT, Int.reduceLE, Int.reduceGT, Int.reduceGE, Int.reduceEq, Int.reduceNe, Int.reduceNeg, Int.reduceAdd, Int.reduceSub, Int.le_refl, List.length_map]
  refine condD_dec (fun hl => ?_) (fun hl => ?_)
  · simp only [go_sem, Nat.reduceAdd, Nat.reduceSub, Nat.reduceMul, Nat.reduceEqDiff, Nat.reduceLeDiff, Nat.reduceLT, ↓reduceIte, Int.reduceToNat, reduceCtorEq, Int.cast_ofNat_Int, Int.reduceLT, Int.reduceLE, Int.reduceGT, Int.reduceGE, Int.reduceEq, Int.reduceNe, Int.reduceNeg, Int.reduceAdd, Int.reduceSub, Int.le_refl]
    exact fin _ _ (eqL_len (by omega)).symm
  have hl : l1.length = l2.length := by omega
  simp only [go_sem, Nat.reduceAdd, Nat.reduceSub, Nat.reduceMul, Nat.reduceEqDiff, Nat.reduceLeDiff, Nat.reduceLT, ↓reduceIte, Int.reduceToNat, reduceCtorEq, Int.cast_ofNat_Int, Int.reduceLT, Int.reduceLE, Int.reduceGT, Int.reduceGE, Int.reduceEq, Int.reduceNe, Int.reduceNeg, Int.reduceAdd, Int.reduceSub, Int.le_refl, List.length_map]
  refine loop_fam (fun i : Nat => ((((((Ch.nil.put 0 (.view f1 3 (l1.map Q.row))).put 1 (.view f2 3 (l2.map Q.row))).put 2 (.func (.func 75) [] [])).put 15 (.view f1 3 (l1.map Q.row))).put 16 (iv l1.length)).put 17 (iv i))) (fun _ => []) (fun i => l1.length - i) (fun i => i ≤ l1.length ∧ eqL Q.eq l1 l2 = eqL Q.eq (l1.drop i) (l2.drop i)) 0 (by kernel_rfl) ⟨Nat.zero_le _, by simp⟩ (Wk.slots' rfl (by simp [wkS, Ch.get])) ?_
  rintro i ⟨hi, hx⟩ K hK
  simp only [go_sem, Nat.reduceAdd, Nat.reduceSub, Nat.reduceMul, Nat.reduceEqDiff, Nat.reduceLeDiff, Nat.reduceLT, ↓reduceIte, Int.reduceToNat, reduceCtorEq, Int.cast_ofNat_Int, Int.reduceLT, Int.reduceLE, Int.reduceGT, Int.reduceGE, Int.reduceEq, Int.reduceNe, Int.reduceNeg, Int.reduceAdd, Int.reduceSub, Int.le_refl]
  refine condD_dec (fun hc => ?_) (fun hc => ?_)
  · have hc' : i < l1.length := by omega
    have hc2 : i < l2.length := by omega
    have hc3 : (i : Int) < l2.length := by omega
    obtain ⟨x, hx1⟩ := at_lt hc'
    obtain ⟨y, hy1⟩ := at_lt hc2
    have e1 : iw .i64 ((i : Int) + 1) = ((i + 1 : Nat) : Int) := by rw [iw64] <;> omega
    rw [eqL_drop hx1 hy1] at hx
    simp only [go_sem, Nat.reduceAdd, Nat.reduceSub, Nat.reduceMul, Nat.reduceEqDiff, Nat.reduceLeDiff, Nat.reduceLT, ↓reduceIte, Int.reduceToNat, reduceCtorEq, Int.cast_ofNat_Int, Int.reduceLT, Int.reduceLE, Int.reduceGT, Int.reduceGE, Int.reduceEq, Int.reduceNe, Int.reduceNeg, Int.reduceAdd, Int.reduceSub, Int.le_refl, List.length_map, List.getElem?_map, hx1, hy1, hc, hc', hc2, hc3, Int.natCast_nonneg, true_and, Q.row]
    refine rK_use (enters_of Try.func75 rfl (by decide)) (ACalls.pure_use (same1_c x y) rfl rfl) ?_
    cases hxy : Q.eq x y
    · simp only [go_sem, Nat.reduceAdd, Nat.reduceSub, Nat.reduceMul, Nat.reduceEqDiff, Nat.reduceLeDiff, Nat.reduceLT, ↓reduceIte, Int.reduceToNat, reduceCtorEq, Int.cast_ofNat_Int, Int.reduceLT, Int.reduceLE, Int.reduceGT, Int.reduceGE, Int.reduceEq, Int.reduceNe, Int.reduceNeg, Int.reduceAdd, Int.reduceSub, Int.le_refl]
      exact fin _ _ (by rw [hx]; simp [hxy])
    · simp only [go_sem, Nat.reduceAdd, Nat.reduceSub, Nat.reduceMul, Nat.reduceEqDiff, Nat.reduceLeDiff, Nat.reduceLT, ↓reduceIte, Int.reduceToNat, reduceCtorEq, Int.cast_ofNat_Int, Int.reduceLT, Int.reduceLE, Int.reduceGT, Int.reduceGE, Int.reduceEq, Int.reduceNe, Int.reduceNeg, Int.reduceAdd, Int.reduceSub, Int.le_refl, e1]
      exact hK (i + 1) _ _ ⟨hc', by rw [hx]; simp [hxy]⟩ (by omega) (Wk.drop (m := 0) (by simp [wkS, Ch.get]) (by decide) (Nat.zero_le _) (by simp [chLt, AV.lt, ltL]) (by simp) (by simp))
  · simp only [go_sem, Nat.reduceAdd, Nat.reduceSub, Nat.reduceMul, Nat.reduceEqDiff, Nat.reduceLeDiff, Nat.reduceLT, ↓reduceIte, Int.reduceToNat, reduceCtorEq, Int.cast_ofNat_Int, Int.reduceLT, Int.reduceLE, Int.reduceGT, Int.reduceGE, Int.reduceEq, Int.reduceNe, Int.reduceNeg, Int.reduceAdd, Int.reduceSub, Int.le_refl]
    have d1 : l1.drop i = [] := by simp; omega
    have d2 : l2.drop i = [] := by simp; omega
    exact fin _ _ (by rw [hx, d1, d2, eqL])
def S.same (a b : S) : Bool := decide (a.quantum = b.quantum) && (eqL T.eq a.thr b.thr && eqL Q.eq a.cpus b.cpus)
theorem Same_c (a b : S) : ACalls Try.prog 33 [a.av, b.av] [] (fun o H => o = .ret (.bool (a.same b)) ∧ H = []) := by
  refine ACalls.up ?_
  refine ACalls.intro (cs := []) (n := 24) Try.func33 rfl rfl rfl (by kernel_rfl) rfl ?_
  have fin : ∀ v H, v = a.same b → Up 0 (fun (o : Out) (H : Heap) => o = Out.ret (.bool (a.same b)) ∧ H = []) (.ret (.bool v)) H := fun v H e => by subst e; exact up_bool ⟨rfl, rfl⟩
  generalize (fun (o : Out) (H : Heap) => o = Out.ret (.bool (a.same b)) ∧ H = []) = post at fin ⊢
  simp only [go_sem, Nat.reduceAdd, Nat.reduceSub, Nat.reduceMul, Nat.reduceEqDiff, Nat.reduceLeDiff, Nat.reduceLT, ↓reduceIte, Int.reduceToNat, reduceCtorEq, Int.cast_ofNat_Int, Int.reduceLT, Int.reduceLE, Int.reduceGT, Int.reduceGE, Int.reduceEq, Int.reduceNe, Int.reduceNeg, Int.reduceAdd, Int.reduceSub, Int.le_refl, S.av]
  refine gD_dec (fun h1 => ?_) (fun h1 => ?_) <;> simp only [go_sem, Nat.reduceAdd, Nat.reduceSub, Nat.reduceMul, Nat.reduceEqDiff, Nat.reduceLeDiff, Nat.reduceLT, ↓reduceIte, Int.reduceToNat, reduceCtorEq, Int.cast_ofNat_Int, Int.reduceLT, Int.reduceLE, Int.reduceGT, Int.reduceGE, Int.reduceEq, Int.reduceNe, Int.reduceNeg, Int.reduceAdd, Int.reduceSub, Int.le_refl, h1]
  · refine rK_use (enters_of Try.func73 rfl (by decide)) (ACalls.pure_use (eqslots_c a.thr b.thr false false) rfl rfl) ?_
    simp only [go_sem, Nat.reduceAdd, Nat.reduceSub, Nat.reduceMul, Nat.reduceEqDiff, Nat.reduceLeDiff, Nat.reduceLT, ↓reduceIte, Int.reduceToNat, reduceCtorEq, Int.cast_ofNat_Int, Int.reduceLT, Int.reduceLE, Int.reduceGT, Int.reduceGE, Int.reduceEq, Int.reduceNe, Int.reduceNeg, Int.reduceAdd, Int.reduceSub, Int.le_refl]
    cases h2 : eqL T.eq a.thr b.thr
    · simp only [go_sem, Nat.reduceAdd, Nat.reduceSub, Nat.reduceMul, Nat.reduceEqDiff, Nat.reduceLeDiff, Nat.reduceLT, ↓reduceIte, Int.reduceToNat, reduceCtorEq, Int.cast_ofNat_Int, Int.reduceLT, Int.reduceLE, Int.reduceGT, Int.reduceGE, Int.reduceEq, Int.reduceNe, Int.reduceNeg, Int.reduceAdd, Int.reduceSub, Int.le_refl]
      exact fin _ _ (by simp [S.same, h2])
    · simp only [go_sem, Nat.reduceAdd, Nat.reduceSub, Nat.reduceMul, Nat.reduceEqDiff, Nat.reduceLeDiff, Nat.reduceLT, ↓reduceIte, Int.reduceToNat, reduceCtorEq, Int.cast_ofNat_Int, Int.reduceLT, Int.reduceLE, Int.reduceGT, Int.reduceGE, Int.reduceEq, Int.reduceNe, Int.reduceNeg, Int.reduceAdd, Int.reduceSub, Int.le_refl]
      refine rK_use (enters_of Try.func74 rfl (by decide)) (ACalls.pure_use (eqcpus_c a.cpus b.cpus false false) rfl rfl) ?_
      simp only [go_sem, Nat.reduceAdd, Nat.reduceSub, Nat.reduceMul, Nat.reduceEqDiff, Nat.reduceLeDiff, Nat.reduceLT, ↓reduceIte, Int.reduceToNat, reduceCtorEq, Int.cast_ofNat_Int, Int.reduceLT, Int.reduceLE, Int.reduceGT, Int.reduceGE, Int.reduceEq, Int.reduceNe, Int.reduceNeg, Int.reduceAdd, Int.reduceSub, Int.le_refl]
      exact fin _ _ (by simp [S.same, h1, h2])
  · exact fin _ _ (by simp [S.same, h1])
theorem T.eq_iff (a b : T) : a.eq b = true ↔ a = b := by
  obtain ⟨a1, a2, a3⟩ := a
  obtain ⟨b1, b2, b3⟩ := b
  simp [T.eq]
theorem Q.eq_iff (a b : Q) : a.eq b = true ↔ a = b := by
  obtain ⟨a1, a2, a3⟩ := a
  obtain ⟨b1, b2, b3⟩ := b
  simp [Q.eq, eqL_iff (f := eqI) (by simp [eqI])]
theorem S.same_iff (a b : S) : a.same b = true ↔ a = b := by
  obtain ⟨a1, a2, a3⟩ := a
  obtain ⟨b1, b2, b3⟩ := b
  simp only [S.same, Bool.and_eq_true, decide_eq_true_eq, eqL_iff T.eq_iff, eqL_iff Q.eq_iff, S.mk.injEq]
  constructor
  · rintro ⟨h1, h2, h3⟩; exact ⟨h3, h2, h1⟩
  · rintro ⟨h1, h2, h3⟩; exact ⟨h3, h2, h1⟩
end Go.Proofs.Ytljepmbikbdicaa

set_option maxRecDepth 100000
set_option linter.unusedVariables false
set_option linter.unusedSimpArgs false
namespace Go.Proofs.Ytljepmbikbdicaa
open Go.AM
theorem End_i {s s' : S} {n e : Int} (h1 : s.res (s.eEnd n) 51 = (s', e)) : ACalls Try.prog 19 [s.av, iv n] [] (fun o H => o = .ret (.tuple [s'.av, iv e]) ∧ H = []) := by
  have h := End_c s n
  rw [h1] at h
  exact h
theorem Yield_i {s s' : S} {n e : Int} (h1 : s.res (s.eYield n) 52 = (s', e)) : ACalls Try.prog 35 [s.av, iv n] [] (fun o H => o = .ret (.tuple [s'.av, iv e]) ∧ H = []) := by
  have h := Yield_c s n
  rw [h1] at h
  exact h
theorem SetPri_i {s s' : S} {n p e : Int} (h1 : s.res (s.eSetPri n p) (s.rSetPri n) = (s', e)) : ACalls Try.prog 22 [s.av, iv n, iv p] [] (fun o H => o = .ret (.tuple [s'.av, iv e]) ∧ H = []) := by
  have h := SetPri_c s n p
  rw [h1] at h
  exact h
theorem Add_i {s s' : S} {p n e r : Int} (h1 : s.res (s.eAdd p n) (s.rAdd p n) = (s', e)) (h2 : s.nAdd p n = r) : ACalls Try.prog 18 [s.av, iv p, iv n] [] (fun o H => o = .ret (.tuple [s'.av, iv r, iv e]) ∧ H = []) := by
  have h := Add_c s p n
  rw [h1, h2] at h
  exact h
theorem Steal_i {s s' : S} {n e r : Int} (h1 : s.res ((s.cp n).map fun _ => s.steal n.toNat) 52 = (s', e)) (h2 : (if s.valid = true then if (s.cp n).isSome then s.nSteal n.toNat else 0 else 0) = r) : ACalls Try.prog 36 [s.av, iv n] [] (fun o H => o = .ret (.tuple [s'.av, iv r, iv e]) ∧ H = []) := by
  have h := Steal_c s n
  rw [h1, h2] at h
  exact h
theorem th_nat {s : S} {i : Nat} : s.th i = s.thr[i]? := by simp [S.th]
theorem cp_nat {s : S} {i : Nat} : s.cp i = s.cpus[i]? := by simp [S.cp]
/-- What an operation returns: a state, or an error. -/
theorem S.res_cases (s : S) (r : Option S) (e : Int) : (∃ s', s.valid = true ∧ r = some s' ∧ s.res r e = (s', 0)) ∨ (s.valid = true ∧ r = none ∧ s.res r e = (S.zero, e)) ∨ (s.valid = false ∧ s.res r e = (S.zero, 50)) := by
  by_cases hv : s.valid = true
  · cases r with
    | none => exact .inr (.inl ⟨hv, rfl, S.res_no hv rfl⟩)
    | some s' => exact .inl ⟨s', hv, rfl, S.res_ok hv rfl⟩
  · exact .inr (.inr ⟨S.not_valid hv, S.res_bad (S.not_valid hv)⟩)
theorem eBlock_some {s s' : S} {n : Int} (h : s.eBlock n = some s') : ∃ (i : Nat) (t : T), n = i ∧ s.thr[i]? = some t ∧ (t.st = 1 ∨ t.st = 2) ∧ s' = (s.take i).setSt i 3 := by
  unfold S.eBlock at h
  split at h
  · rename_i t ht
    obtain ⟨i, rfl, ht⟩ := S.th_some ht
    split at h
    · rename_i hst
      refine ⟨i, t, rfl, ht, by simpa using hst, ?_⟩
      simpa using h.symm
    · cases h
  · cases h
theorem eEnd_eq {s : S} {i : Nat} {t : T} (ht : s.thr[i]? = some t) (hst : t.st ∈ [1, 2, 3]) : s.eEnd i = some ((s.take i).setSt i 4) := by
  simp only [S.eEnd, th_nat, ht, if_pos hst, Int.toNat_natCast]
theorem eWake_eq {s : S} {i : Nat} {t : T} (ht : s.thr[i]? = some t) (hst : t.st ∈ [3]) : s.eWake i = some (s.put i false) := by
  simp only [S.eWake, th_nat, ht, if_pos hst, Int.toNat_natCast]
theorem eSetPri_eq {s : S} {i : Nat} {t : T} {p : Int} (ht : s.thr[i]? = some t) (hst : t.st ∈ [1, 2, 3]) (hp : 0 ≤ p ∧ p ≤ 7) : s.eSetPri i p = some (if t.st = 1 then ((s.take i).setPri i p).put i false else s.setPri i p) := by
  simp only [S.eSetPri, th_nat, ht, if_pos (And.intro hst hp), Int.toNat_natCast]
end Go.Proofs.Ytljepmbikbdicaa
