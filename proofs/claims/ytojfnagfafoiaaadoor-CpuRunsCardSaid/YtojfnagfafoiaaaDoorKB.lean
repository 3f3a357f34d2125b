/- Whether two structures or arrays of plain data are equal. No condition. -/
import Derived.Test.YtojfnagfafoiaaaDoorKA
import Derived.DeepKeys
import Derived.MapKept
import Derived.Laws.BytesString
import Derived.RangeFuncRecord
import Derived.RangeFuncIn
import Derived.OrdersIn
import Derived.LoopNIn
import Derived.LoopN
set_option linter.unusedVariables false
set_option linter.unusedSimpArgs false
namespace Go.AM
def tileB (P : Program) : List Field → Nat → Nat → Bool
  | [], o, n => decide (o = n)
  | f :: fs, o, n => decide (f.offset = o) && tileB P fs (o + P.cellsOf f.type) n
/-- What a cell holds. -/
inductive CT where
  | b
  | i
  | s
def eqFs (P : Program) (g : TypeId → Option (List CT)) (t : TypeId) (n : Nat) : List Field → Nat → Option (List CT)
  | [], o => if o = n then some [] else none
  | f :: fs, o => if f.offset = o ∧ f.name ≠ "_" then match g f.type, eqFs P g t n fs (o + P.cellsOf f.type) with
    | some x, some y => some (x ++ y)
    | _, _ => none
    else none
/-- Types of plain data whose cells can be compared one by one: the cells. -/
def eqTy (P : Program) : Nat → TypeId → Option (List CT)
  | 0, _ => none
  | m + 1, t => match P.underlying t with
    | some .bool => if P.cellsOf t = 1 then some [.b] else none
    | some (.int _) => if P.cellsOf t = 1 then some [.i] else none
    | some .string => if P.cellsOf t = 1 then some [.s] else none
    | some (.array n e) => if n * P.cellsOf e = P.cellsOf t then (eqTy P m e).map fun l => (List.replicate n l).flatten else none
    | some (.struct fs) => if P.stoodInHeld t = false then eqFs P (eqTy P m) t (P.cellsOf t) fs.toList 0 else none
    | _ => none
def eqC : CT → AV → AV → Option Bool
  | .i, .int k a, .int k' b => if k = k' then some (decide (a = b)) else none
  | .b, .bool a, .bool b => some (decide (a = b))
  | .s, .str a, .str b => some (decide (a = b))
  | _, _, _ => none
def eqCs : List CT → List AV → List AV → Option Bool
  | [], [], [] => some true
  | c :: cs, x :: xs, y :: ys => match eqC c x y, eqCs cs xs ys with
    | some a, some b => some (a && b)
    | _, _ => none
  | _, _, _ => none
theorem eqCs_len : ∀ {cs : List CT} {xs ys : List AV} {b : Bool}, eqCs cs xs ys = some b → xs.length = cs.length ∧ ys.length = cs.length
  | [], [], [], _, _ => ⟨rfl, rfl⟩
  | c :: cs, x :: xs, y :: ys, b, h => by
    simp only [eqCs] at h
    split at h
    · rename_i a b' _ h2
      have := eqCs_len h2
      simp [this]
    · cases h
  | [], [], _ :: _, _, h => by simp [eqCs] at h
  | [], _ :: _, _, _, h => by simp [eqCs] at h
  | _ :: _, [], _, _, h => by simp [eqCs] at h
  | _ :: _, _ :: _, [], _, h => by simp [eqCs] at h
theorem eqCs_split : ∀ {c1 c2 : List CT} {xs ys : List AV} {b : Bool}, eqCs (c1 ++ c2) xs ys = some b → ∃ b1 b2, eqCs c1 (xs.take c1.length) (ys.take c1.length) = some b1 ∧ eqCs c2 (xs.drop c1.length) (ys.drop c1.length) = some b2 ∧ b = (b1 && b2)
  | [], c2, xs, ys, b, h => ⟨true, b, by simp [eqCs], by simpa using h, by simp⟩
  | c :: c1, c2, [], ys, b, h => by simp [eqCs] at h
  | c :: c1, c2, _ :: _, [], b, h => by simp [eqCs] at h
  | c :: c1, c2, x :: xs, y :: ys, b, h => by
    simp only [List.cons_append, eqCs] at h
    split at h
    · rename_i a b' h1 h2
      obtain ⟨b1, b2, g1, g2, rfl⟩ := eqCs_split h2
      refine ⟨a && b1, b2, by simp [eqCs, h1, g1], by simpa using g2, ?_⟩
      cases h
      simp [Bool.and_assoc]
    · cases h
/-- A value and its cells. -/
def ValOf (P : Program) (t : TypeId) (v : Value) (cs : List Value) : Prop := match P.underlying t with
  | some (.struct _) | some (.array _ _) => v = .agg cs.toArray
  | _ => cs = [v]
section
variable {P : Program} (w : World) {sn : Snap} {ρ : Env}
theorem info_of_eqTy {m : Nat} {t : TypeId} {l : List CT} (h : eqTy P m t = some l) : ∃ i, P.info? t = some i := by
  cases m with
  | zero => simp [eqTy] at h
  | succ m =>
    unfold eqTy at h
    cases hu : P.underlying t with
    | none => simp [hu] at h
    | some d => exact info_of_underlying hu
theorem eqFs_len {g : TypeId → Option (List CT)} {t : TypeId} {n : Nat} (hg : ∀ u l, g u = some l → l.length = P.cellsOf u) : ∀ (fs : List Field) (o : Nat) (l : List CT), eqFs P g t n fs o = some l → o + l.length = n
  | [], o, l, h => by
    simp only [eqFs] at h
    split at h
    · cases h; simpa
    · cases h
  | f :: fs, o, l, h => by
    simp only [eqFs] at h
    split at h
    · split at h
      · rename_i x y hx hy
        cases h
        have := eqFs_len hg fs _ y hy
        have := hg _ _ hx
        simp; omega
      · cases h
    · cases h
theorem eqTy_len : ∀ (m : Nat) (t : TypeId) (l : List CT), eqTy P m t = some l → l.length = P.cellsOf t
  | 0, _, _, h => by simp [eqTy] at h
  | m + 1, t, l, h => by
    unfold eqTy at h
    split at h
    · split at h
      · rename_i h1; cases h; simp [h1]
      · cases h
    · split at h
      · rename_i h1; cases h; simp [h1]
      · cases h
    · split at h
      · rename_i h1; cases h; simp [h1]
      · cases h
    · split at h
      · rename_i n e hu h1
        rw [Option.map_eq_some_iff] at h
        obtain ⟨l', hl', rfl⟩ := h
        simp [eqTy_len m e l' hl', h1]
      · cases h
    · split at h
      · have := eqFs_len (eqTy_len m) _ 0 l h
        omega
      · cases h
    · cases h
theorem run_partV {m : Nat} {t : TypeId} {l : List CT} (h : eqTy P m t = some l) {xs : Array Value} {off : Nat} (hl : off + P.cellsOf t ≤ xs.size) : ∃ v, (part t xs off).run P w = .ok v w ∧ ValOf P t v ((xs.toList.drop off).take (P.cellsOf t)) := by
  obtain ⟨i, hi⟩ := info_of_eqTy h
  have hx : (xs.extract off (off + P.cellsOf t)).toList = (xs.toList.drop off).take (P.cellsOf t) := by
    rw [Array.toList_extract]
    simp [List.extract]
  have one : P.cellsOf t = 1 → ∃ v, xs[off]? = some v ∧ (xs.toList.drop off).take (P.cellsOf t) = [v] := fun h1 => by
    have hlt : off < xs.size := by omega
    refine ⟨xs[off], Array.getElem?_eq_getElem hlt, ?_⟩
    rw [h1, List.drop_eq_getElem_cons (by simpa using hlt)]
    simp
  cases m with
  | zero => simp [eqTy] at h
  | succ m =>
    unfold eqTy at h
    split at h
    · rename_i hu
      split at h
      · rename_i hc
        obtain ⟨v, h1, h2⟩ := one hc
        exact ⟨v, by simp [part, isAgg, run_underlying hu, h1], by simp only [ValOf, hu]; exact h2⟩
      · cases h
    · rename_i k hu
      split at h
      · rename_i hc
        obtain ⟨v, h1, h2⟩ := one hc
        exact ⟨v, by simp [part, isAgg, run_underlying hu, h1], by simp only [ValOf, hu]; exact h2⟩
      · cases h
    · rename_i hu
      split at h
      · rename_i hc
        obtain ⟨v, h1, h2⟩ := one hc
        exact ⟨v, by simp [part, isAgg, run_underlying hu, h1], by simp only [ValOf, hu]; exact h2⟩
      · cases h
    · rename_i n e hu
      exact ⟨.agg (xs.extract off (off + P.cellsOf t)), by simp [part, isAgg, run_underlying hu, run_sizeOf w hi], by simp only [ValOf, hu]; rw [← hx]⟩
    · rename_i fs hu
      exact ⟨.agg (xs.extract off (off + P.cellsOf t)), by simp [part, isAgg, run_underlying hu, run_sizeOf w hi], by simp only [ValOf, hu]; rw [← hx]⟩
    · cases h
/-- The comparison of one part. -/
def EqOk (P : Program) (w : World) (sn : Snap) (ρ : Env) (d : Nat) (t : TypeId) (l : List CT) : Prop := ∀ (xs ys : List AV) (cs ds : List Value) (x y : Value) (b : Bool), VRs sn ρ xs cs → VRs sn ρ ys ds → ValOf P t x cs → ValOf P t y ds → eqCs l xs ys = some b → (Op.equalIn d t x y).run P w = .ok b w
theorem VRs.take {xs : List AV} {cs : List Value} (n : Nat) (h : VRs sn ρ xs cs) : VRs sn ρ (xs.take n) (cs.take n) := by
  refine ⟨by simp [h.1], fun k x v hx hv => ?_⟩
  rw [List.getElem?_take] at hx hv
  split at hx
  · rename_i hk
    rw [if_pos hk] at hv
    exact h.2 k x v hx hv
  · cases hx
theorem VRs.drop {xs : List AV} {cs : List Value} (n : Nat) (h : VRs sn ρ xs cs) : VRs sn ρ (xs.drop n) (cs.drop n) := by
  refine ⟨by simp [h.1], fun k x v hx hv => ?_⟩
  rw [List.getElem?_drop] at hx hv
  exact h.2 _ x v hx hv
theorem run_eqFieldsV {m d : Nat} {xs ys : List AV} {cs ds : Array Value} {t : TypeId} (hok : ∀ u l, eqTy P m u = some l → EqOk P w sn ρ d u l) (hx : VRs sn ρ xs cs.toList) (hy : VRs sn ρ ys ds.toList) :
    ∀ (fs : List Field) (o : Nat) (l : List CT) (b : Bool), eqFs P (eqTy P m) t cs.size fs o = some l → eqCs l (xs.drop o) (ys.drop o) = some b → cs.size = ds.size → (Op.eqFields d cs ds fs).run P w = .ok b w
  | [], o, l, b, ht, h, _ => by
    simp only [eqFs] at ht
    split at ht
    · rename_i ho
      cases ht
      have h1 : xs.drop o = [] := by rw [List.drop_eq_nil_iff, ← hx.1]; simp; omega
      rw [h1] at h
      cases hys : ys.drop o with
      | nil =>
        rw [hys] at h
        cases h
        simp [Op.eqFields]
      | cons z zs =>
        rw [hys] at h
        simp [eqCs] at h
    · cases ht
  | f :: fs, o, l, b, ht, h, hsize => by
    have hlen := eqFs_len (eqTy_len m) _ _ _ ht
    simp only [eqFs] at ht
    split at ht
    · rename_i hof
      split at ht
      · rename_i l1 l2 hl1 hl2
        cases ht
        have hc := eqTy_len m _ _ hl1
        obtain ⟨b1, b2, g1, g2, rfl⟩ := eqCs_split h
        rw [hc, List.drop_drop, List.drop_drop] at g2
        have h2 := run_eqFieldsV hok hx hy fs _ l2 b2 hl2 g2 hsize
        have hsz : f.offset + P.cellsOf f.type ≤ cs.size := by simp at hlen; omega
        obtain ⟨u, p1, p2⟩ := run_partV w hl1 hsz
        obtain ⟨v, q1, q2⟩ := run_partV w (xs := ds) hl1 (off := f.offset) (by omega)
        rw [hc, ← hof.1] at g1
        have he := hok _ _ hl1 _ _ _ _ u v b1 ((hx.drop f.offset).take (P.cellsOf f.type)) ((hy.drop f.offset).take (P.cellsOf f.type)) p2 q2 g1
        simp only [Op.eqFields, hof.2, ne_eq, not_false_eq_true, if_true, Sem.run_bind, p1, q1, he, Result.andThen_ok]
        cases b1
        · simp
        · simpa using h2
      · cases ht
    · cases ht
theorem run_eqItemsV {m d : Nat} {e : TypeId} {l : List CT} (hty : eqTy P m e = some l) (hok : EqOk P w sn ρ d e l) {xs ys : List AV} {cs ds : Array Value} (hx : VRs sn ρ xs cs.toList) (hy : VRs sn ρ ys ds.toList) (hl : cs.size = ds.size) :
    ∀ (k i : Nat) (b : Bool), (i + k) * P.cellsOf e = cs.size → eqCs (List.replicate k l).flatten (xs.drop (i * P.cellsOf e)) (ys.drop (i * P.cellsOf e)) = some b → (Op.eqItems d e (P.cellsOf e) cs ds (List.range' i k)).run P w = .ok b w
  | 0, i, b, hs, h => by
    have := eqCs_len h
    simp only [List.replicate_zero, List.flatten_nil, List.length_nil, List.length_eq_zero_iff] at this
    rw [this.1, this.2] at h
    cases h
    simp [Op.eqItems]
  | k + 1, i, b, hs, h => by
    rw [List.replicate_succ, List.flatten_cons] at h
    have hc := eqTy_len m _ _ hty
    obtain ⟨b1, b2, g1, g2, rfl⟩ := eqCs_split h
    have e1 : i * P.cellsOf e + P.cellsOf e = (i + 1) * P.cellsOf e := by rw [Nat.add_mul]; omega
    rw [hc, List.drop_drop, List.drop_drop, e1] at g2
    have h2 := run_eqItemsV hty hok hx hy hl k (i + 1) b2 (by rw [← hs]; congr 1; omega) g2
    have hsz : i * P.cellsOf e + P.cellsOf e ≤ cs.size := by
      rw [e1, ← hs]
      exact Nat.mul_le_mul_right _ (by omega)
    obtain ⟨u, p1, p2⟩ := run_partV w hty hsz
    obtain ⟨v, q1, q2⟩ := run_partV w (xs := ds) hty (off := i * P.cellsOf e) (by omega)
    rw [hc] at g1
    have he := hok _ _ _ _ u v b1 ((hx.drop (i * P.cellsOf e)).take (P.cellsOf e)) ((hy.drop (i * P.cellsOf e)).take (P.cellsOf e)) p2 q2 g1
    rw [List.range'_succ]
    simp only [Op.eqItems, Sem.run_bind, p1, q1, he, Result.andThen_ok]
    cases b1
    · simp
    · simpa using h2
theorem run_equalV (d : Nat) : ∀ (m : Nat) (t : TypeId) (l : List CT), eqTy P m t = some l → EqOk P w sn ρ (d + m) t l
  | 0, _, _, h => by simp [eqTy] at h
  | m + 1, t, l, h => by
    intro xs ys cs ds x y b hx hy hvx hvy he
    have hlen := eqCs_len he
    have hll := eqTy_len _ _ _ h
    unfold eqTy at h
    have one : ∀ c, l = [c] → cs = [x] → ds = [y] → ∃ a a', VR sn ρ a x ∧ VR sn ρ a' y ∧ eqC c a a' = some b := fun c h1 e1 e2 => by
      subst e1 e2 h1
      match xs, ys, hx, hy, he with
      | [a], [a'], hx, hy, he =>
        refine ⟨a, a', hx.2 0 a x rfl rfl, hy.2 0 a' y rfl rfl, ?_⟩
        simp only [eqCs] at he
        split at he
        · rename_i p q h1 h2
          cases h2
          cases he
          simpa using h1
        · cases he
      | [], _, hx, _, _ => have := hx.1; simp at this
      | _ :: _ :: _, _, hx, _, _ => have := hx.1; simp at this
      | [_], [], _, hy, _ => have := hy.1; simp at this
      | [_], _ :: _ :: _, _, hy, _ => have := hy.1; simp at this
    rw [show d + (m + 1) = (d + m) + 1 from rfl]
    split at h
    · rename_i hu
      simp only [ValOf, hu] at hvx hvy
      split at h
      · cases h
        obtain ⟨a, c, h1, h2, h3⟩ := one _ rfl hvx hvy
        cases a <;> cases c <;> simp [eqC] at h3
        cases h1
        cases h2
        rw [run_equalIn_bool w _ t _ _ hu, ← h3]
        rfl
      · cases h
    · rename_i k hu
      simp only [ValOf, hu] at hvx hvy
      split at h
      · cases h
        obtain ⟨a, c, h1, h2, h3⟩ := one _ rfl hvx hvy
        cases a <;> cases c <;> simp [eqC] at h3
        obtain ⟨rfl, h3⟩ := h3
        cases h1
        cases h2
        rw [run_equalIn_int w _ t _ _ _ _ hu, ← h3]
        rfl
      · cases h
    · rename_i hu
      simp only [ValOf, hu] at hvx hvy
      split at h
      · cases h
        obtain ⟨a, c, h1, h2, h3⟩ := one _ rfl hvx hvy
        cases a <;> cases c <;> simp [eqC] at h3
        cases h1
        cases h2
        rw [run_equalIn_string w _ t _ _ hu, ← h3]
        rename_i p q
        have : (p.toList = q.toList) ↔ p = q := by simp [ByteArray.toList_eq, ByteArray.ext_iff, Array.toList_inj]
        congr 1
        by_cases hpq : p = q
        · simp [hpq]
        · simp [hpq, this]
      · cases h
    · rename_i n e hu
      simp only [ValOf, hu] at hvx hvy
      subst hvx hvy
      split at h
      · rename_i hn
        rw [Option.map_eq_some_iff] at h
        obtain ⟨l', hl', rfl⟩ := h
        obtain ⟨i, hi⟩ := info_of_eqTy hl'
        rw [run_equalIn_array w (d + m) _ _ hu hi, List.range_eq_range']
        have hsz : cs.toArray.size = ds.toArray.size := by
          have h1 := hx.1; have h2 := hy.1
          simp; omega
        refine run_eqItemsV w hl' (run_equalV d m e l' hl') (xs := xs) (ys := ys) (by simpa using hx) (by simpa using hy) hsz n 0 b ?_ (by simpa using he)
        have h1 := hx.1
        simp; omega
      · cases h
    · rename_i fs hu
      simp only [ValOf, hu] at hvx hvy
      subst hvx hvy
      split at h
      · rename_i hst
        have hfs : P.fieldsOf t = fs := by simp [Program.fieldsOf, hu]
        rw [run_equalIn_struct w (d + m) t _ _ (by rw [hfs]; exact hu) hst, hfs]
        have h1 := hx.1; have h2 := hy.1
        refine run_eqFieldsV (m := m) (t := t) w (fun u l hl => run_equalV d m u l hl) (xs := xs) (ys := ys) (by simpa using hx) (by simpa using hy) fs.toList 0 l b ?_ (by simpa using he) (by simp; omega)
        have : cs.toArray.size = P.cellsOf t := by simp; omega
        rw [this]; exact h
      · cases h
    · cases h
end
/-- The cells of a type whose values can be compared. -/
def aEqTy (P : Program) (t : TypeId) : Option (List CT) := if P.eqGuardType P.depth t = false then eqTy P 12 t else none
def aAggEqB (op : BinOp) : Option Bool → AR
  | some b => match op with
    | .eql => .val (.bool b)
    | .neq => .val (.bool (!b))
    | _ => .bad
  | none => .bad
def aAggEqL (op : BinOp) (xs ys : List AV) : Option (List CT) → AR
  | some l => aAggEqB op (eqCs l xs ys)
  | none => .bad
def aAggEq (P : Program) (op : BinOp) (t : TypeId) (xs ys : List AV) : AR := aAggEqL op xs ys (aEqTy P t)
theorem eqTy_agg {P : Program} {m : Nat} {t : TypeId} {l : List CT} (h : eqTy P m t = some l) {xs ys : List AV} {cs ds : Array Value} {b : Bool} {sn : Snap} {ρ : Env} (hx : VR sn ρ (.agg xs) (.agg cs)) (hy : VR sn ρ (.agg ys) (.agg ds)) (he : eqCs l xs ys = some b) (d : Nat) (w : World)
    (hagg : (match P.underlying t with | some (.struct _) | some (.array _ _) => true | _ => false) = true) : (Op.equalIn (d + m) t (.agg cs) (.agg ds)).run P w = .ok b w := by
  have key : ∀ {xs : List AV} {cs : Array Value}, VR sn ρ (.agg xs) (.agg cs) → VRs sn ρ xs cs.toList := fun hx => by
    cases hx with
    | agg _ _ _ hs h => exact ⟨by simpa using hs, fun k x v hk hv => h k x v hk (by simpa using hv)⟩
  have hv : ∀ cs : Array Value, ValOf P t (.agg cs) cs.toList := fun cs => by
    unfold ValOf
    split at hagg <;> simp_all
  exact run_equalV w d m t l h xs ys cs.toList ds.toList _ _ b (key hx) (key hy) (hv cs) (hv ds) he
theorem aAggEq_ok {P : Program} {sn : Snap} {ρ : Env} {H : Heap} {w : World} {op : BinOp} {t : TypeId} {xs ys : List AV} {cx cy : Value} (hx : VR sn ρ (.agg xs) cx) (hy : VR sn ρ (.agg ys) cy) (x y : Operand) (hagg : (match P.underlying t with | some (.struct _) | some (.array _ _) => true | _ => false) = true) :
    (aAggEq P op t xs ys).ok P ((asNext (do eqGuard op t x y cx cy; binOp op t cx cy)).run P w) sn ρ H w := by
  unfold aAggEq aAggEqL
  split
  · rename_i l hl
    unfold aEqTy at hl
    split at hl
    · rename_i hg
      unfold aAggEqB
      split
      · rename_i b hb
        obtain ⟨cs, rfl⟩ : ∃ cs, cx = .agg cs := by cases hx; exact ⟨_, rfl⟩
        obtain ⟨ds, rfl⟩ : ∃ ds, cy = .agg ds := by cases hy; exact ⟨_, rfl⟩
        have he : (Op.equal t (.agg cs) (.agg ds)).run P w = .ok b w := eqTy_agg hl hx hy hb 9988 w hagg
        split
        · exact ⟨.bool b, by simp [asNext, eqGuard, hg, binOp, he], .bool _ _⟩
        · exact ⟨.bool (!b), by simp [asNext, eqGuard, hg, binOp, he], .bool _ _⟩
        · trivial
      · trivial
    · cases hl
  · trivial
end Go.AM

set_option linter.unusedVariables false
set_option linter.unusedSimpArgs false
namespace Go.AM

/-! ### two numbers -/
def bAnd (k : IntKind) (a b : Int) : Int := k.wrap (BitVec.ofInt k.bits a &&& BitVec.ofInt k.bits b).toNat
def bOr (k : IntKind) (a b : Int) : Int := k.wrap (BitVec.ofInt k.bits a ||| BitVec.ofInt k.bits b).toNat
def bXor (k : IntKind) (a b : Int) : Int := k.wrap (BitVec.ofInt k.bits a ^^^ BitVec.ofInt k.bits b).toNat
def bAndNot (k : IntKind) (a b : Int) : Int := k.wrap (BitVec.ofInt k.bits a &&& ~~~BitVec.ofInt k.bits b).toNat
/-- A number, wrapped to its kind. -/
def iw (k : IntKind) (n : Int) : Int := k.wrap n
theorem iw64 {n : Int} (h1 : -9223372036854775808 ≤ n) (h2 : n ≤ 9223372036854775807) : iw .i64 n = n := by simp [iw, IntKind.wrap, IntKind.signed, IntKind.bits]; omega
theorem iwu8 {n : Int} (h1 : 0 ≤ n) (h2 : n ≤ 255) : iw .u8 n = n := by simp [iw, IntKind.wrap, IntKind.signed, IntKind.bits]; omega
def aInts (op : BinOp) (k : IntKind) (a b : Int) : AR := match op with
  | .add => .val (.int k (iw k (a + b)))
  | .sub => .val (.int k (iw k (a - b)))
  | .mul => .val (.int k (iw k (a * b)))
  | .quo => .chk (b ≠ 0) (.val (.int k (iw k (a.tdiv b))))
  | .rem => .chk (b ≠ 0) (.val (.int k (a.tmod b)))
  | .eql => .val (.bool (decide (a = b)))
  | .neq => .val (.bool (decide (a ≠ b)))
  | .lss => .val (.bool (decide (a < b)))
  | .leq => .val (.bool (decide (a ≤ b)))
  | .gtr => .val (.bool (decide (b < a)))
  | .geq => .val (.bool (decide (b ≤ a)))
  | .and => .val (.int k (bAnd k a b))
  | .or => .val (.int k (bOr k a b))
  | .xor => .val (.int k (bXor k a b))
  | .andNot => .val (.int k (bAndNot k a b))
  | _ => .bad
def aShift (op : BinOp) (k : IntKind) (a b : Int) : AR := match op with
  | .shl => .chk (0 ≤ b) (.val (.int k (iw k (a * 2 ^ (min b.toNat k.bits)))))
  | .shr => .chk (0 ≤ b) (.val (.int k (a.fdiv (2 ^ (min b.toNat k.bits)))))
  | _ => .bad
def aBools (op : BinOp) (a b : Bool) : AR := match op with
  | .eql => .val (.bool (a == b))
  | .neq => .val (.bool (a != b))
  | _ => .bad
def aStrs (op : BinOp) (a b : ByteArray) : AR := match op with
  | .eql => .val (.bool (a.toList == b.toList))
  | .neq => .val (.bool (!(a.toList == b.toList)))
  | .add => .chk (((a.size + b.size : Nat) : Int) ≤ IntKind.i64.max) (.val (.str (a ++ b)))
  | .lss => .val (.bool (Op.bytesLess a.toList b.toList))
  | .gtr => .val (.bool (!(Op.bytesLess a.toList b.toList || a.toList == b.toList)))
  | .leq => .val (.bool (Op.bytesLess a.toList b.toList || a.toList == b.toList))
  | .geq => .val (.bool (!Op.bytesLess a.toList b.toList))
  | _ => .bad
/-- Is a pointer nil? (The other one is.) -/
def aNil (op : BinOp) (isNil : Bool) : AR := match op with
  | .eql => .val (.bool isNil)
  | .neq => .val (.bool (!isNil))
  | _ => .bad
/-- A slice of n elements against nil. -/
def aNilSl (op : BinOp) (n : Nat) : AR := match op with
  | .eql => .ndb (fun b => n ≠ 0 → b = false)
  | .neq => .ndb (fun b => n ≠ 0 → b = true)
  | _ => .bad
def aInt2 (op : BinOp) (k k' : IntKind) (a b : Int) : AR :=
  match op with
  | .shl => aShift .shl k a b
  | .shr => aShift .shr k a b
  | op => if k = k' then aInts op k a b else .bad
def aBin (op : BinOp) (d : TD) (x y : AV) : AR := match x, y with
  | .int k a, .int k' b => aInt2 op k k' a b
  | .bool a, .bool b => match d with | .bool => aBools op a b | _ => .bad
  | .str a, .str b => aStrs op a b
  | .ptr _ _ _, .nilptr | .cptr _ _, .nilptr => match d with | .ptr _ => aNil op false | _ => .bad
  | .nilptr, .nilptr => match d with | .ptr _ => aNil op true | _ => .bad
  | .func _ _ _, .nilfunc => match d with | .func => aNil op false | _ => .bad
  | .nilfunc, .nilfunc => match d with | .func => aNil op true | _ => .bad
  | .iface _ _, .nilif => match d with | .iface => aNil op false | _ => .bad
  | _, _ => .bad
def AV.slLen : AV → Option Nat
  | .view _ _ xs => some xs.length
  | .sl _ _ len _ => some len
  | _ => none
def aNilSlO (op : BinOp) (d : TD) (n : Option Nat) : AR := match d, n with
  | .slice _, some n => aNilSl op n
  | _, _ => .bad
def isNilSl : Operand → Bool
  | .const (.slice none 0 0) => true
  | _ => false
def isNilIf : Operand → Bool
  | .const .nilIface => true
  | _ => false
def aNilIf (op : BinOp) (d : TD) (x : AV) : AR := match d, x with
  | .iface, .nilif => aNil op true
  | .iface, .iface _ _ => aNil op false
  | _, _ => .bad
def aAggs (P : Program) (op : BinOp) (t : TypeId) (x v : AV) : AR := match x, v with
  | .agg xs, .agg ys => aAggEq P op t xs ys
  | _, _ => .bad
def aBinO (P : Program) (op : BinOp) (t : TypeId) (y : Operand) (x v : AV) : AR := match tinfo P t with
  | some i => if isNilSl y then aNilSlO op i.desc x.slLen else if isNilIf y then aNilIf op i.desc x else if i.desc.isAgg = true then aAggs P op t x v else aBin op i.desc x v
  | none => .bad

theorem run_eqGuard {P : Program} {op : BinOp} {t : TypeId} {x y : Operand} {a b : Value} (h1 : ¬ (a = .nilIface ∧ b = .nilIface)) (h2 : ∀ c d, ¬ (a = .agg c ∧ b = .agg d)) (w : World) : (eqGuard op t x y a b).run P w = .ok () w := by
  unfold eqGuard
  cases op <;> simp
  all_goals
    split
    · exact absurd ⟨rfl, rfl⟩ h1
    · rename_i c d
      exact absurd ⟨rfl, rfl⟩ (h2 c d)
    · simp

theorem aInts_ok {P : Program} {sn : Snap} {ρ : Env} {H : Heap} {w : World} {t : TypeId} (op : BinOp) (k : IntKind) (a b : Int) (hs : op ≠ .shl ∧ op ≠ .shr) : (aInts op k a b).ok P ((asNext (binOp op t (.int k a) (.int k b))).run P w) sn ρ H w := by
  cases op <;> simp only [aInts]
  case shl => exact absurd rfl hs.1
  case shr => exact absurd rfl hs.2
  case quo => intro hb; exact ⟨.int k (iw k (a.tdiv b)), by simp [asNext, binOp, Op.intDiv, hb, iw], .int _ _ _⟩
  case rem => intro hb; exact ⟨.int k (a.tmod b), by simp [asNext, binOp, Op.intDiv, hb, iw], .int _ _ _⟩
  case eql => exact ⟨.bool (decide (a = b)), by simp [asNext, binOp, Op.intCmp]; rfl, .bool _ _⟩
  case neq => exact ⟨.bool (decide (a ≠ b)), by simp [asNext, binOp, Op.intCmp, bne]; by_cases h : a = b <;> simp [h], .bool _ _⟩
  case lss => exact ⟨.bool (decide (a < b)), by simp [asNext, binOp, Op.intCmp], .bool _ _⟩
  case leq => exact ⟨.bool (decide (a ≤ b)), by simp [asNext, binOp, Op.intCmp], .bool _ _⟩
  case gtr => exact ⟨.bool (decide (b < a)), by simp [asNext, binOp, Op.intCmp], .bool _ _⟩
  case geq => exact ⟨.bool (decide (b ≤ a)), by simp [asNext, binOp, Op.intCmp], .bool _ _⟩
  case add => exact ⟨.int k (iw k (a + b)), by simp [asNext, binOp, Op.intArith, iw], .int _ _ _⟩
  case sub => exact ⟨.int k (iw k (a - b)), by simp [asNext, binOp, Op.intArith, iw], .int _ _ _⟩
  case mul => exact ⟨.int k (iw k (a * b)), by simp [asNext, binOp, Op.intArith, iw], .int _ _ _⟩
  case and => exact ⟨.int k (bAnd k a b), by simp [asNext, binOp, Op.intBits, bAnd], .int _ _ _⟩
  case or => exact ⟨.int k (bOr k a b), by simp [asNext, binOp, Op.intBits, bOr], .int _ _ _⟩
  case xor => exact ⟨.int k (bXor k a b), by simp [asNext, binOp, Op.intBits, bXor], .int _ _ _⟩
  case andNot => exact ⟨.int k (bAndNot k a b), by simp [asNext, binOp, Op.intBits, bAndNot], .int _ _ _⟩

theorem aShift_ok {P : Program} {sn : Snap} {ρ : Env} {H : Heap} {w : World} {t : TypeId} (op : BinOp) (k k' : IntKind) (a b : Int) : (aShift op k a b).ok P ((asNext (binOp op t (.int k a) (.int k' b))).run P w) sn ρ H w := by
  cases op <;> simp only [aShift]
  case shl =>
    intro hb
    have : ¬ b < 0 := by omega
    exact ⟨.int k (iw k (a * 2 ^ (min b.toNat k.bits))), by simp [asNext, binOp, Op.shift, this, iw], .int _ _ _⟩
  case shr =>
    intro hb
    have : ¬ b < 0 := by omega
    exact ⟨.int k (a.fdiv (2 ^ (min b.toNat k.bits))), by simp [asNext, binOp, Op.shift, this, iw], .int _ _ _⟩
  all_goals trivial

theorem eqk_ok {P : Program} {sn : Snap} {ρ : Env} {H : Heap} {w : World} {t : TypeId} {cx cy : Value} {ox oy : Operand} (op : BinOp) (b : Bool) (hg : ∀ w, (eqGuard op t ox oy cx cy).run P w = .ok () w)
    (heq : ∀ d, (Op.equalIn (d + 1) t cx cy).run P w = .ok b w) (h1 : binOp .eql t cx cy = (do pure (.bool (← Op.equal t cx cy)))) (h2 : binOp .neq t cx cy = (do pure (.bool (!(← Op.equal t cx cy))))) :
    (aNil op b).ok P ((asNext (do eqGuard op t ox oy cx cy; binOp op t cx cy)).run P w) sn ρ H w := by
  have he : (Op.equal t cx cy).run P w = .ok b w := heq 9999
  cases op <;> simp only [aNil]
  case eql => exact ⟨.bool b, by simp [asNext, hg, h1, he], .bool _ _⟩
  case neq => exact ⟨.bool (!b), by simp [asNext, hg, h2, he], .bool _ _⟩
  all_goals trivial

theorem aBools_nil (op : BinOp) (a b : Bool) : aBools op a b = aNil op (a == b) := by cases op <;> simp [aBools, aNil, bne]

theorem aBin_ok {P : Program} {sn : Snap} {ρ : Env} {H : Heap} {w : World} {op : BinOp} {t : TypeId} {i : TI} (ht : tinfo P t = some i) {x y : AV} {cx cy : Value} (hx : VR sn ρ x cx) (hy : VR sn ρ y cy) (ox oy : Operand) :
    (aBin op i.desc x y).ok P ((asNext (do eqGuard op t ox oy cx cy; binOp op t cx cy)).run P w) sn ρ H w := by
  obtain ⟨d, hd, hdd, hun⟩ := run_under_ti ht w
  unfold aBin
  split
  · rename_i k a k' b
    cases hx
    cases hy
    have hg : ∀ w, (eqGuard op t ox oy (.int k a) (.int k' b)).run P w = .ok () w := run_eqGuard (by simp) (by simp)
    have he : (asNext (do eqGuard op t ox oy (.int k a) (.int k' b); binOp op t (.int k a) (.int k' b))).run P w = (asNext (binOp op t (.int k a) (.int k' b))).run P w := by simp [asNext, hg]
    rw [he]
    unfold aInt2
    split
    · exact aShift_ok _ _ _ _ _
    · exact aShift_ok _ _ _ _ _
    · rename_i h1 h2
      split
      · rename_i hk
        subst hk
        exact aInts_ok op k a b ⟨h1, h2⟩
      · trivial
  · rename_i a b
    cases hx
    cases hy
    split
    · rename_i he
      rw [hdd] at he
      cases d <;> simp [TD.of] at he
      rw [aBools_nil]
      exact eqk_ok op _ (run_eqGuard (by simp) (by simp)) (fun d => by simp [Op.equalIn, hd]) rfl rfl
    · trivial
  · rename_i a b
    cases hx
    cases hy
    have hg : ∀ w, (eqGuard op t ox oy (.string a) (.string b)).run P w = .ok () w := run_eqGuard (by simp) (by simp)
    cases op <;> simp only [aStrs]
    case add =>
      intro hl
      have h3 : (a.size : Int) + b.size ≤ 9223372036854775807 := by simpa [IntKind.max, IntKind.signed, IntKind.bits] using hl
      exact ⟨.string (a ++ b), by simp [asNext, hg, binOp, Op.stringOp, h3, IntKind.max, IntKind.signed, IntKind.bits], .str _ _⟩
    case eql => exact ⟨.bool (a.toList == b.toList), by simp [asNext, hg, binOp, Op.stringOp], .bool _ _⟩
    case neq => exact ⟨.bool (!(a.toList == b.toList)), by simp [asNext, hg, binOp, Op.stringOp], .bool _ _⟩
    case lss => exact ⟨.bool (Op.bytesLess a.toList b.toList), by simp [asNext, hg, binOp, Op.stringOp], .bool _ _⟩
    case leq => exact ⟨.bool (Op.bytesLess a.toList b.toList || a.toList == b.toList), by simp [asNext, hg, binOp, Op.stringOp], .bool _ _⟩
    case gtr => exact ⟨.bool (!(Op.bytesLess a.toList b.toList || a.toList == b.toList)), by simp [asNext, hg, binOp, Op.stringOp], .bool _ _⟩
    case geq => exact ⟨.bool (!Op.bytesLess a.toList b.toList), by simp [asNext, hg, binOp, Op.stringOp], .bool _ _⟩
    all_goals trivial
  · rename_i r e j
    cases hx
    rename_i p hp
    cases hy
    split
    · rename_i q he
      rw [hdd] at he
      cases d <;> simp [TD.of] at he
      exact eqk_ok op _ (run_eqGuard (by simp) (by simp)) (fun d => by simp [Op.equalIn, hd]) rfl rfl
    · trivial
  · rename_i row j
    cases hx
    rename_i b o vs hc ho hr
    cases hy
    split
    · rename_i q he
      rw [hdd] at he
      cases d <;> simp [TD.of] at he
      exact eqk_ok op _ (run_eqGuard (by simp) (by simp)) (fun d => by simp [Op.equalIn, hd]) rfl rfl
    · trivial
  · cases hx
    cases hy
    split
    · rename_i q he
      rw [hdd] at he
      cases d <;> simp [TD.of] at he
      exact eqk_ok op _ (run_eqGuard (by simp) (by simp)) (fun d => by simp [Op.equalIn, hd]) rfl rfl
    · trivial
  · cases hx
    rename_i fn xs ys us vs hu hv h1 h2
    cases hy
    split
    · rename_i he
      rw [hdd] at he
      cases d <;> simp [TD.of] at he
      exact eqk_ok op _ (run_eqGuard (by simp) (by simp)) (fun d => by simp [Op.equalIn, hd]) rfl rfl
    · trivial
  · cases hx
    cases hy
    split
    · rename_i he
      rw [hdd] at he
      cases d <;> simp [TD.of] at he
      exact eqk_ok op _ (run_eqGuard (by simp) (by simp)) (fun d => by simp [Op.equalIn, hd]) rfl rfl
    · trivial
  · rename_i u v
    cases hx
    rename_i cv hcv
    cases hy
    split
    · rename_i he
      rw [hdd] at he
      cases d <;> simp [TD.of] at he
      exact eqk_ok op _ (run_eqGuard (by simp) (by simp)) (fun d => by simp [Op.equalIn, hd]) rfl rfl
    · trivial
  · trivial

theorem aBinO_ok {P : Program} {sn : Snap} {ρ : Env} {n : Nat} {H : Heap} {w : World} {s : Ch} {a : Act} (hg : GlOk sn) (hs : SR sn ρ n s a.tmps) (op : BinOp) (t : TypeId) (x y : Operand) :
    (aBinO P op t y (cev s x) (cev s y)).ok P ((asNext (do eqGuard op t x y (a.eval x) (a.eval y); binOp op t (a.eval x) (a.eval y))).run P w) sn ρ H w := by
  have hx := cev_ok hg hs x
  have hy := cev_ok hg hs y
  unfold aBinO
  split
  · rename_i i ht
    split
    · rename_i hny
      obtain ⟨d, hd, hdd, hun⟩ := run_under_ti ht w
      have hyv : a.eval y = .slice none 0 0 := by
        unfold isNilSl at hny
        split at hny
        · rfl
        · cases hny
      rw [hyv]
      unfold aNilSlO
      split
      · rename_i e m hde hm
        rw [hdd] at hde
        cases d <;> simp [TD.of] at hde
        have key : ∃ (aa : Option Addr) (c : Nat), a.eval x = .slice aa m c ∧ (m ≠ 0 → aa.isSome = true) := by
          generalize cev s x = ax at hx hm
          cases ax <;> simp [AV.slLen] at hm
          · subst hm
            obtain ⟨aa, b, o, c, vs, he, hl, hmx, hf, ha, _⟩ := hx.view_inv
            exact ⟨aa, c, he, fun h => by rw [ha (fun e => h (by simp [e]))]; rfl⟩
          · subst hm
            obtain ⟨aa, c, he, hl, hmx, hc, hcase⟩ := hx.sl_inv
            refine ⟨aa, c, he, fun h => ?_⟩
            rcases hcase with e0 | ⟨p, _, hp, _⟩
            · omega
            · rw [hp]; rfl
        obtain ⟨aa, c, he, hsome⟩ := key
        rw [he]
        have hg : ∀ w, (eqGuard op t x y (.slice aa m c) (.slice none 0 0)).run P w = .ok () w := run_eqGuard (by simp) (by simp)
        have heq : (Op.equal t (.slice aa m c) (.slice none 0 0)).run P w = .ok aa.isNone w := by
          have : ∀ d, (Op.equalIn (d + 1) t (.slice aa m c) (.slice none 0 0)).run P w = .ok aa.isNone w := fun d => by
            cases aa <;> simp [Op.equalIn, hd]
          exact this 9999
        have b1 : binOp .eql t (.slice aa m c) (.slice none 0 0) = (do pure (.bool (← Op.equal t (.slice aa m c) (.slice none 0 0)))) := rfl
        have b2 : binOp .neq t (.slice aa m c) (.slice none 0 0) = (do pure (.bool (!(← Op.equal t (.slice aa m c) (.slice none 0 0))))) := rfl
        cases op <;> simp only [aNilSl]
        case eql => exact ⟨aa.isNone, by simp [asNext, hg, b1, heq], fun h => by have := hsome h; cases aa <;> simp_all⟩
        case neq => exact ⟨!aa.isNone, by simp [asNext, hg, b2, heq], fun h => by have := hsome h; cases aa <;> simp_all⟩
        all_goals trivial
      · trivial
    · split
      · rename_i hny
        obtain ⟨d, hd, hdd, hun⟩ := run_under_ti ht w
        have hyv : y = .const .nilIface := by
          unfold isNilIf at hny
          split at hny
          · rfl
          · cases hny
        subst hyv
        have hyv : a.eval (.const .nilIface) = .nilIface := rfl
        rw [hyv]
        unfold aNilIf
        split
        · rename_i hde hxe
          rw [hdd] at hde
          rw [hxe] at hx
          generalize a.eval x = cx at hx
          cases hx
          cases d <;> simp [TD.of] at hde
          refine eqk_ok op true (fun w => ?_) (fun d => by simp [Op.equalIn, hd]) rfl rfl
          unfold eqGuard
          cases op <;> simp
        · rename_i u v hde hxe
          rw [hdd] at hde
          rw [hxe] at hx
          generalize a.eval x = cx at hx
          cases hx
          cases d <;> simp [TD.of] at hde
          exact eqk_ok op false (run_eqGuard (by simp) (by simp)) (fun d => by simp [Op.equalIn, hd]) rfl rfl
        · trivial
      · split
        · rename_i hag
          obtain ⟨d, hd, hdd, hun⟩ := run_under_ti ht w
          unfold aAggs
          split
          · rename_i xs ys hxe hye
            rw [hxe] at hx
            rw [hye] at hy
            refine aAggEq_ok hx hy x y ?_
            rw [show P.underlying t = some d from hun]
            rw [hdd] at hag
            cases d <;> simp_all [TD.isAgg, TD.of]
          · trivial
        · exact aBin_ok ht hx hy x y
  · trivial

/-! ### one operand -/
def aUn (op : UnOp) (x : AV) : AR := match op, x with
  | .not, .bool b => .val (.bool (!b))
  | .neg, .int k n => .val (.int k (iw k (0 - n)))
  | .xor, .int k n => .val (.int k (bXor k (if k.signed then -1 else k.max) n))
  | _, _ => .bad
theorem aUn_ok {P : Program} {sn : Snap} {ρ : Env} {H : Heap} {w : World} (op : UnOp) {x : AV} {cx : Value} (hx : VR sn ρ x cx) : (aUn op x).ok P ((asNext (Op.unary op cx)).run P w) sn ρ H w := by
  unfold aUn
  split
  · cases hx
    exact ⟨.bool _, by simp [asNext, Op.unary], .bool _ _⟩
  · cases hx
    exact ⟨.int _ _, by simp [asNext, Op.unary, Op.intArith, iw], .int _ _ _⟩
  · cases hx
    exact ⟨.int _ _, by simp [asNext, Op.unary, Op.intBits, bXor], .int _ _ _⟩
  · trivial

def aExtract (x : AV) (k : Nat) : AR := match x with
  | .tuple vs => match vs[k]? with | some v => .val v | none => .bad
  | _ => .bad
theorem aExtract_ok {P : Program} {sn : Snap} {ρ : Env} {H : Heap} {w : World} {x : AV} {cx : Value} (hx : VR sn ρ x cx) (k : Nat) : (aExtract x k).ok P ((asNext (Instr.extract cx k)).run P w) sn ρ H w := by
  unfold aExtract
  split
  · rename_i vs
    split
    · rename_i v hv
      cases hx
      rename_i ys hs h
      have hlt : k < ys.size := by rw [hs]; exact (List.getElem?_eq_some_iff.1 hv).1
      have he := Array.getElem?_eq_getElem hlt
      exact ⟨ys[k], by simp [asNext, Instr.extract, he], h _ _ _ hv he⟩
    · trivial
  · trivial

def aMakeIface (P : Program) (t : TypeId) (x : AV) : AR := match tinfo P t with
  | some i => match i.desc with | .iface => .bad | _ => .val (.iface t x)
  | none => .bad
theorem aMakeIface_ok {P : Program} {sn : Snap} {ρ : Env} {H : Heap} {w : World} {t : TypeId} {x : AV} {cx : Value} (hx : VR sn ρ x cx) : (aMakeIface P t x).ok P ((asNext (Instr.makeInterface t cx)).run P w) sn ρ H w := by
  unfold aMakeIface
  split
  · rename_i i ht
    obtain ⟨d, hd, hdd, hun⟩ := run_under_ti ht w
    split
    · trivial
    · rename_i hn
      refine ⟨.iface t cx, ?_, .iface _ _ _ _ hx⟩
      cases d <;> first
        | (exact absurd hdd (hn ·))
        | simp [asNext, Instr.makeInterface, hd]
  · trivial

def aNilCheck (x : AV) : AR := match x with
  | .ptr _ _ _ | .cptr _ _ | .iface _ _ => .val x
  | .func (.func _) _ _ => .val x
  | _ => .bad

def aPick (c a b : AV) : AR := match c with
  | .bool c => .val (if c = true then a else b)
  | _ => .bad

/-- x.(t) and x.(t) with ok, t no interface type. -/
def aAssert (P : Program) (x : AV) (t : TypeId) (ok : Bool) : AR := match tinfo P t with
  | some i => match i.desc with
    | .iface => .bad
    | _ => match x, ok with
      | .iface u v, true => if u = t then .val (.tuple [v, .bool true]) else .val (.tuple [.any, .bool false])
      | .nilif, true => .val (.tuple [.any, .bool false])
      | .iface u v, false => if u = t then .val v else .bad
      | _, _ => .bad
  | none => .bad
end Go.AM

set_option linter.unusedVariables false
set_option linter.unusedSimpArgs false
namespace Go.AM

def nilCheckSem (x : Value) : Sem Next := match x with
  | .pointer none | .nilIface | .nilFunc => runtimePanic .nilDeref
  | .func (.method name) first captured =>
      match (first[0]? : Option Value) with
      | some .nilIface => runtimePanic .nilDeref
      | some (.iface t w) => do
        if (← nilAhead ((← program).types.size + Made.depth) t w name) != some false then
          unsupported (.noEntry "op/nilCheck.the method's receiver behind this interface value is a nil pointer, or cannot be seen to be none, and the arguments act or may panic (ledger 612)")
        pure (.value (.func (.method name) first captured))
      | _ => pure (.value (.func (.method name) first captured))
  | x => pure (.value x)

theorem aNilCheck_ok {P : Program} {sn : Snap} {ρ : Env} {H : Heap} {w : World} {x : AV} {cx : Value} (hx : VR sn ρ x cx) : (aNilCheck x).ok P ((nilCheckSem cx).run P w) sn ρ H w := by
  unfold aNilCheck
  split
  · have hx' := hx
    cases hx
    exact ⟨_, rfl, hx'⟩
  · have hx' := hx
    cases hx
    exact ⟨_, rfl, hx'⟩
  · have hx' := hx
    cases hx
    exact ⟨_, rfl, hx'⟩
  · have hx' := hx
    cases hx
    exact ⟨_, rfl, hx'⟩
  · trivial

theorem aPick_ok {P : Program} {sn : Snap} {ρ : Env} {H : Heap} {w : World} {c a b : AV} {cc ca cb : Value} (hc : VR sn ρ c cc) (ha : VR sn ρ a ca) (hb : VR sn ρ b cb) :
    (aPick c a b).ok P ((do pure (Next.value (if ← asBool cc then ca else cb)) : Sem Next).run P w) sn ρ H w := by
  unfold aPick
  split
  · rename_i c
    cases hc
    refine ⟨if c = true then ca else cb, by simp [asBool], ?_⟩
    split <;> assumption
  · trivial

theorem zeroV_ok {P : Program} {sn : Snap} {ρ : Env} {t : TypeId} {i : TI} (ht : tinfo P t = some i) (hone : i.zero.all AV.one = true) (w : World) :
    ∃ z, (zeroValue t).run P w = .ok z w ∧ i.zero = z.cells.toList.map AV.ofV := run_zero_ti ht w

/-! ### aggregates -/
def aFill (place : Nat → Option (Nat × Nat)) (cells : List AV) : List (Nat × AV) → Option (List AV)
  | [] => some cells
  | (k, v) :: rest => match place k, v.cells with
    | some (off, size), some cs => if cs.length = size ∧ off + size ≤ cells.length then aFill place (splice cells off cs) rest else none
    | _, _ => none
def CellsR (sn : Snap) (ρ : Env) (xs : List AV) (c : Array Value) : Prop := c.size = xs.length ∧ ∀ (k : Nat) x y, xs[k]? = some x → c[k]? = some y → VR sn ρ x y
def PartsR (sn : Snap) (ρ : Env) (xs : List (Nat × AV)) (ys : List (Nat × Value)) : Prop := ys.length = xs.length ∧ ∀ (k : Nat) x y, xs[k]? = some x → ys[k]? = some y → y.1 = x.1 ∧ VR sn ρ x.2 y.2

theorem fold_set (off : Nat) : ∀ (vs : List Value) (j : Nat) (c : Array Value), off + j + vs.length ≤ c.size →
    ((vs.zipIdx j).foldl (fun cs (x : Value × Nat) => cs.setIfInBounds (off + x.2) x.1) c).size = c.size ∧
    ∀ k, ((vs.zipIdx j).foldl (fun cs (x : Value × Nat) => cs.setIfInBounds (off + x.2) x.1) c)[k]? = if off + j ≤ k ∧ k < off + j + vs.length then vs[k - (off + j)]? else c[k]? := by
  intro vs
  induction vs with
  | nil => intro j c _; refine ⟨rfl, fun k => by simp; omega⟩
  | cons v vs ih =>
    intro j c hl
    simp only [List.length_cons] at hl
    obtain ⟨h2, h3⟩ := ih (j + 1) (c.setIfInBounds (off + j) v) (by simp; omega)
    simp only [List.zipIdx_cons, List.foldl_cons]
    refine ⟨by rw [h2]; simp, fun k => ?_⟩
    rw [h3]
    simp only [List.length_cons]
    by_cases e : k = off + j
    · subst e
      rw [if_neg (by omega), if_pos (by omega)]
      have : off + j < c.size := by omega
      simp [Array.getElem?_setIfInBounds, this]
    · by_cases e2 : off + j ≤ k ∧ k < off + j + (vs.length + 1)
      · rw [if_pos (by omega), if_pos e2]
        obtain ⟨m, hm⟩ : ∃ m, k - (off + j) = m + 1 := ⟨k - (off + j) - 1, by omega⟩
        rw [hm, List.getElem?_cons_succ]
        congr 1
        omega
      · rw [if_neg (by omega), if_neg e2]
        have : ¬ off + j = k := fun h => e h.symm
        simp [Array.getElem?_setIfInBounds, this]

theorem aFill_ok {sn : Snap} {ρ : Env} {place : Nat → Option (Nat × Nat)} : ∀ (parts : List (Nat × AV)) (cparts : List (Nat × Value)) (cells : List AV) (c : Array Value) (out : List AV), CellsR sn ρ cells c → PartsR sn ρ parts cparts →
    aFill place cells parts = some out → ∃ c', Instr.fill place c cparts = some c' ∧ CellsR sn ρ out c' := by
  intro parts
  induction parts with
  | nil =>
    intro cparts cells c out hc hp h
    have : cparts = [] := List.length_eq_zero_iff.1 hp.1
    subst this
    simp only [aFill, Option.some.injEq] at h
    subst h
    exact ⟨c, rfl, hc⟩
  | cons p rest ih =>
    intro cparts cells c out hc hp h
    obtain ⟨k, v⟩ := p
    cases cparts with
    | nil => have := hp.1; simp at this
    | cons q crest =>
      obtain ⟨k', cv⟩ := q
      obtain ⟨hk, hv⟩ := hp.2 0 _ _ rfl rfl
      simp only at hk hv
      subst hk
      simp only [aFill] at h
      split at h
      · rename_i off size cs hpl hcs
        split at h
        · rename_i hcond
          obtain ⟨hs, hcell⟩ := hv.cells_ok hcs
          have hle : off + 0 + cv.cells.toList.length ≤ c.size := by
            rw [hc.1]; simp only [Array.length_toList]; omega
          obtain ⟨f2, f3⟩ := fold_set off cv.cells.toList 0 c hle
          have hf : cv.cells.zipIdx.foldl (fun cs (x : Value × Nat) => cs.setIfInBounds (off + x.2) x.1) c = (cv.cells.toList.zipIdx 0).foldl (fun cs (x : Value × Nat) => cs.setIfInBounds (off + x.2) x.1) c := by
            rw [← Array.foldl_toList]; simp
          have hcr : CellsR sn ρ (splice cells off cs) (cv.cells.zipIdx.foldl (fun cs (x : Value × Nat) => cs.setIfInBounds (off + x.2) x.1) c) := by
            have hsl : off + cs.length ≤ cells.length := by omega
            refine ⟨by rw [hf, f2, hc.1, splice_length hsl], fun m x y hx hy => ?_⟩
            rw [hf, f3] at hy
            rw [splice_get hsl] at hx
            simp only [Nat.add_zero, Array.length_toList, hs] at hy
            split at hx
            · rename_i hin
              rw [if_pos hin] at hy
              obtain ⟨u, h1, h2⟩ := hcell _ _ hx
              rw [Array.getElem?_toList] at hy
              rw [h1] at hy
              injection hy with hy
              subst hy
              exact h2
            · rename_i hout
              rw [if_neg hout] at hy
              exact hc.2 m x y hx hy
          obtain ⟨c', g1, g2⟩ := ih crest (splice cells off cs) _ out hcr ⟨by have := hp.1; simpa using this, fun m x y hx hy => hp.2 (m + 1) x y (by simpa using hx) (by simpa using hy)⟩ h
          refine ⟨c', ?_, g2⟩
          have hneg : ¬ ((decide (cv.cells.size ≠ size) || decide (off + cv.cells.size > c.size)) = true) := by simp [hs, hc.1]; omega
          simp only [Instr.fill, hpl]
          rw [if_neg hneg]
          exact g1
        · cases h
      · cases h

def aBuildD (P : Program) (i : TI) (parts : List (Nat × AV)) : AR := match i.desc with
  | .struct fs => match aFill (fun k => (fs[k]?).bind fun f => (tinfo P f.2).map fun fi => (f.1, fi.size)) i.zero parts with
    | some cs => if (fs.all fun f => (tinfo P f.2).isSome) = true then .val (.agg cs) else .bad
    | none => .bad
  | .array _ e => match tinfo P e with
    | some ie => match aFill (fun k => some (k * ie.size, ie.size)) i.zero parts with
      | some cs => .val (.agg cs)
      | none => .bad
    | none => .bad
  | _ => .bad
def aBuild (P : Program) (t : TypeId) (parts : List (Nat × AV)) : AR := match tinfo P t with
  | some i => aBuildD P i parts
  | none => .bad

theorem run_mapM_places {P : Program} {w : World} : ∀ (fs : List Field), (fs.all fun f => (tinfo P f.type).isSome) = true →
    ((fs.mapM fun f => do pure (f.offset, ← sizeOf f.type) : Sem (List (Nat × Nat)))).run P w = .ok (fs.map fun f => (f.offset, ((tinfo P f.type).map (·.size)).getD 0)) w := by
  intro fs
  induction fs with
  | nil => intro _; rfl
  | cons f fs ih =>
    intro h
    simp only [List.all_cons, Bool.and_eq_true] at h
    obtain ⟨i, hi⟩ := Option.isSome_iff_exists.1 h.1
    rw [List.mapM_cons]
    simp only [Sem.run_bind, run_size_ti hi, ih h.2, Result.andThen_ok, Sem.run_pure, List.map_cons, hi, Option.map_some, Option.getD_some]

theorem aBuild_ok {P : Program} {sn : Snap} {ρ : Env} {H : Heap} {w : World} {t : TypeId} {parts : List (Nat × AV)} {cparts : Array (Nat × Value)} (hp : PartsR sn ρ parts cparts.toList) :
    (aBuild P t parts).ok P ((asNext (Instr.build t cparts)).run P w) sn ρ H w := by
  unfold aBuild
  split
  · rename_i i ht
    obtain ⟨d, hd, hdd, hun⟩ := run_under_ti ht w
    obtain ⟨z, hz1, hz2⟩ := run_zero_ti ht w
    have hcz : CellsR sn ρ i.zero z.cells := by
      rw [hz2]
      refine ⟨by simp, fun k x y hx hy => ?_⟩
      simp only [List.getElem?_map, Array.getElem?_toList, hy, Option.map_some, Option.some.injEq] at hx
      subst hx
      exact ofV_ok _ _ _
    unfold aBuildD
    split
    · rename_i fs hfs
      rw [hdd] at hfs
      cases d <;> simp [TD.of] at hfs
      rename_i fields
      subst hfs
      split
      · rename_i cs hfill
        split
        · rename_i hall
          obtain ⟨c', g1, g2⟩ := aFill_ok _ _ _ _ _ hcz hp hfill
          refine ⟨.agg c', ?_, .agg _ _ _ g2.1 g2.2⟩
          have hall' : (fields.toList.all fun f => (tinfo P f.type).isSome) = true := by simpa [List.all_map] using hall
          have hm := run_mapM_places (P := P) (w := w) fields.toList hall'
          have hm2 : ((fields.mapM fun f => do pure (f.offset, ← sizeOf f.type) : Sem (Array (Nat × Nat)))).run P w = .ok (fields.toList.map fun f => (f.offset, ((tinfo P f.type).map (·.size)).getD 0)).toArray w := by
            rw [Array.mapM_eq_mapM_toList]
            simp only [Sem.run_map, hm, Result.andThen_ok]
          have hplace : (fun (k : Nat) => ((fields.toList.map fun (f : Field) => (f.offset, ((tinfo P f.type).map (·.size)).getD 0)).toArray)[k]?) = (fun k => ((List.map (fun (f : Field) => (f.offset, f.type)) fields.toList)[k]?).bind fun (f : Nat × Nat) => (tinfo P f.2).map fun fi => (f.1, fi.size)) := by
            funext k
            simp only [List.getElem?_toArray, List.getElem?_map]
            cases hk : fields.toList[k]? with
            | none => rfl
            | some f =>
              have := List.all_eq_true.1 hall' f (List.mem_of_getElem? hk)
              obtain ⟨fi, hfi⟩ := Option.isSome_iff_exists.1 this
              simp [hfi]
          simp only [asNext, Instr.build, Sem.run_bind, hz1, Result.andThen_ok, hd, hm2]
          rw [hplace, g1]
          rfl
        · trivial
      · trivial
    · rename_i n e hfs
      rw [hdd] at hfs
      cases d <;> simp [TD.of] at hfs
      obtain ⟨rfl, rfl⟩ := hfs
      split
      · rename_i ie hie
        split
        · rename_i cs hfill
          obtain ⟨c', g1, g2⟩ := aFill_ok _ _ _ _ _ hcz hp hfill
          refine ⟨.agg c', ?_, .agg _ _ _ g2.1 g2.2⟩
          simp only [asNext, Instr.build, Sem.run_bind, hz1, Result.andThen_ok, hd, run_size_ti hie, g1]
          rfl
        · trivial
      · trivial
    · trivial
  · trivial
end Go.AM

set_option linter.unusedVariables false
set_option linter.unusedSimpArgs false
namespace Go.AM

def aFillRows (sz : Nat) (rows : List (List AV)) : List (Nat × AV) → Option (List (List AV))
  | [] => some rows
  | (k, v) :: rest => match v.cells with
    | some cs => if cs.length = sz ∧ k < rows.length ∧ cs.all AV.one = true then aFillRows sz (rows.set k cs) rest else none
    | none => none

theorem aFillRows_ok {sn : Snap} {ρ : Env} {sz : Nat} : ∀ (parts : List (Nat × AV)) (cparts : List (Nat × Value)) (rows : List (List AV)) (c : Array Value) (out : List (List AV)), RowsR sn ρ sz rows c → PartsR sn ρ parts cparts →
    aFillRows sz rows parts = some out → ∃ c', Instr.fill (fun k => some (k * sz, sz)) c cparts = some c' ∧ RowsR sn ρ sz out c' ∧ out.length = rows.length := by
  intro parts
  induction parts with
  | nil =>
    intro cparts rows c out hc hp h
    have : cparts = [] := List.length_eq_zero_iff.1 hp.1
    subst this
    simp only [aFillRows, Option.some.injEq] at h
    subst h
    exact ⟨c, rfl, hc, rfl⟩
  | cons p rest ih =>
    intro cparts rows c out hc hp h
    obtain ⟨k, v⟩ := p
    cases cparts with
    | nil => have := hp.1; simp at this
    | cons q crest =>
      obtain ⟨k', cv⟩ := q
      obtain ⟨hk, hv⟩ := hp.2 0 _ _ rfl rfl
      simp only at hk hv
      subst hk
      simp only [aFillRows] at h
      split at h
      · rename_i cs hcs
        split at h
        · rename_i hcond
          obtain ⟨hcl, hkl, hone⟩ := hcond
          obtain ⟨hs, hcell⟩ := hv.cells_ok hcs
          obtain ⟨c1, c2, c3⟩ := hc
          have hfit : (k' + 1) * sz ≤ rows.length * sz := Nat.mul_le_mul_right _ hkl
          rw [Nat.succ_mul] at hfit
          have hle : k' * sz + 0 + cv.cells.toList.length ≤ c.size := by
            rw [c1]; simp only [Array.length_toList]; omega
          obtain ⟨f2, f3⟩ := fold_set (k' * sz) cv.cells.toList 0 c hle
          have hf : cv.cells.zipIdx.foldl (fun cs (x : Value × Nat) => cs.setIfInBounds (k' * sz + x.2) x.1) c = (cv.cells.toList.zipIdx 0).foldl (fun cs (x : Value × Nat) => cs.setIfInBounds (k' * sz + x.2) x.1) c := by
            rw [← Array.foldl_toList]; simp
          have hcr : RowsR sn ρ sz (rows.set k' cs) (cv.cells.zipIdx.foldl (fun cs (x : Value × Nat) => cs.setIfInBounds (k' * sz + x.2) x.1) c) := by
            refine ⟨by rw [hf, f2, c1]; simp, fun i row hi => ?_, fun i row hi j x hj => ?_⟩
            · rcases getElem?_set_list hi with ⟨_, rfl⟩ | ⟨_, hi'⟩
              · exact hcl
              · exact c2 i row hi'
            · have hjs : j < sz := by
                have hjj := (List.getElem?_eq_some_iff.1 hj).1
                rcases getElem?_set_list hi with ⟨_, rfl⟩ | ⟨_, hi'⟩
                · omega
                · rw [c2 i row hi'] at hjj; exact hjj
              rw [hf, f3]
              simp only [Nat.add_zero, Array.length_toList, hs, hcl]
              rcases getElem?_set_list hi with ⟨rfl, rfl⟩ | ⟨hne, hi'⟩
              · rw [if_pos (by omega)]
                obtain ⟨u, h1, h2⟩ := hcell j x hj
                refine ⟨u, ?_, AV.one_of_all hone hj, h2⟩
                rw [Array.getElem?_toList, ← h1]
                congr 1
                omega
              · rw [if_neg]
                · exact c3 i row hi' j x hj
                · intro hin
                  have : i * sz + j = k' * sz + (i * sz + j - k' * sz) := by omega
                  exact hne (mul_inj_of hjs (by omega) this).1
          obtain ⟨c', g1, g2, g3⟩ := ih crest (rows.set k' cs) _ out hcr ⟨by have := hp.1; simpa using this, fun m x y hx hy => hp.2 (m + 1) x y (by simpa using hx) (by simpa using hy)⟩ h
          refine ⟨c', ?_, g2, by rw [g3]; simp⟩
          have hneg : ¬ ((decide (cv.cells.size ≠ sz) || decide (k' * sz + cv.cells.size > c.size)) = true) := by simp [hs, c1]; omega
          simp only [Instr.fill]
          rw [if_neg hneg]
          exact g1
        · cases h
      · cases h

/-- Rows of zero values. -/
theorem zeroRows {sn : Snap} {ρ : Env} {z : Value} {iz : List AV} {sz n : Nat} (hz : iz = z.cells.toList.map AV.ofV) (hl : iz.length = sz) (hone : iz.all AV.one = true) :
    RowsR sn ρ sz (List.replicate n iz) ((Array.range (n * sz)).map (z.cells[· % z.cells.size]!)) := by
  have hzs : z.cells.size = sz := by rw [← hl, hz]; simp
  refine ⟨by simp, fun i row hi => ?_, fun i row hi j x hj => ?_⟩
  · rw [List.getElem?_replicate] at hi
    split at hi
    · injection hi with hi; subst hi; exact hl
    · cases hi
  · have hin := (List.getElem?_eq_some_iff.1 hi).1
    rw [List.getElem?_replicate] at hi
    split at hi
    · injection hi with hi
      subst hi
      have hjs : j < sz := by rw [← hl]; exact (List.getElem?_eq_some_iff.1 hj).1
      simp only [List.length_replicate] at hin
      have hlt := mul_lt_of hin hjs
      have hmod : (i * sz + j) % z.cells.size = j := by rw [hzs, Nat.mul_comm, Nat.mul_add_mod]; exact Nat.mod_eq_of_lt hjs
      have hjz : j < z.cells.size := by omega
      refine ⟨z.cells[j], ?_, AV.one_of_all hone hj, ?_⟩
      · simp [hlt, hmod, hjz]
      · rw [hz] at hj
        simp only [List.getElem?_map, Array.getElem?_toList, Array.getElem?_eq_getElem hjz, Option.map_some, Option.some.injEq] at hj
        subst hj
        exact ofV_ok _ _ _
    · cases hi

def aBuildSliceE (ie : TI) (len : Nat) (rows : Option (List (List AV))) : AR := match rows with
  | some rows => .chk (ie.zero.length = ie.size ∧ ie.zero.all AV.one = true ∧ len * ie.size ≤ 16777216 ∧ len ≤ 16777216) (.alloc (.rows ie.size rows) (fun n => .sl n 0 len (some len)))
  | none => .bad
def aBuildSlice (P : Program) (t : TypeId) (len : Nat) (parts : List (Nat × AV)) : AR := match tinfo P t with
  | some i => match i.desc with
    | .slice e => match tinfo P e with
      | some ie => aBuildSliceE ie len (aFillRows ie.size (List.replicate len ie.zero) parts)
      | none => .bad
    | _ => .bad
  | none => .bad

theorem newRow_ok {P : Program} {sn : Snap} {ρ : Env} {H : Heap} {w : World} (hR : Rel sn ρ H w) {e : TypeId} {rows : List (List AV)} {c : Array Value} {sz len : Nat} (hr : RowsR sn ρ sz rows c) (hl : rows.length = len) (hm : len ≤ maxLen) (cap : Option Nat) (hcap : ∀ k, cap = some k → len = k) {s : Sem Value}
    (hs : s.run P w = (do pure (.slice (some (← newRow e c)) len len) : Sem Value).run P w) :
    (AR.alloc (.rows sz rows) (fun n => .sl n 0 len cap)).ok P ((asNext s).run P w) sn ρ H w := by
  have hmono := envPut_mono (p := ⟨w.heap.size, sz, c.size⟩) (hR.top _ (Nat.le_refl _))
  obtain ⟨r1, r2, r3⟩ := hr.mono (fun _ _ h => h) hmono
  refine ⟨.cells c e, .slice (some ⟨w.heap.size, 0, none⟩) len len, { w with heap := w.heap.push (.cells c e) }, sz, c.size, ?_, rfl, rfl, rfl, rfl, trivial, ⟨rfl, rfl, by rw [r1]; exact Nat.le_refl _, r2, r3, fun o ho => by simp⟩, ?_⟩
  · simp only [asNext, Sem.run_bind, hs]
    simp [newRow]
  · exact VR.sl _ _ _ _ len cap _ ⟨w.heap.size, sz, c.size⟩ (envPut_same _ _ _) (fun _ => by simp) (Nat.le_refl _) hm (by simp [r1, hl]) hcap

theorem aBuildSlice_ok {P : Program} {sn : Snap} {ρ : Env} {H : Heap} {w : World} (hR : Rel sn ρ H w) {t : TypeId} {len : Nat} {parts : List (Nat × AV)} {cparts : Array (Nat × Value)} (hp : PartsR sn ρ parts cparts.toList) :
    (aBuildSlice P t len parts).ok P ((asNext (Instr.buildSlice t len cparts)).run P w) sn ρ H w := by
  unfold aBuildSlice
  split
  · rename_i i ht
    obtain ⟨d, hd, hdd, hun⟩ := run_under_ti ht w
    split
    · rename_i e he
      rw [hdd] at he
      cases d <;> simp [TD.of] at he
      subst he
      rename_i e
      split
      · rename_i ie hie
        unfold aBuildSliceE
        split
        · rename_i rows hrows
          rintro ⟨hzl, hone, hlim, hlim2⟩
          obtain ⟨z, hz1, hz2⟩ := run_zero_ti hie w
          have hzr := zeroRows (sn := sn) (ρ := ρ) (n := len) hz2 hzl hone
          obtain ⟨c', g1, g2, g3⟩ := aFillRows_ok _ _ _ _ _ hzr hp hrows
          simp only [List.length_replicate] at g3
          have hsz : rows.length ≤ maxLen := by
            rw [g3]; simp only [maxLen]; omega
          refine newRow_ok hR g2 g3 (by rw [← g3]; exact hsz) (some len) (fun k hk => by injection hk) (e := e) ?_
          have hlim' : ¬ (len * ie.size > 2 ^ 24) := by omega
          by_cases h0 : len * ie.size = 0
          · have hr0 : Array.range 0 = #[] := rfl
            have h1' : (Array.map (fun (x : Nat) => z.cells[x % z.cells.size]!) #[]) = #[] := by simp
            have h0' : (Array.map (fun (x : Nat) => (#[] : Array Value)[x % (#[] : Array Value).size]!) #[]) = #[] := by simp
            rw [h0, hr0, h1'] at g1
            have hn0 : ¬ (0 > 2 ^ 24) := by omega
            simp only [Instr.buildSlice, Sem.run_bind, hd, Result.andThen_ok, run_size_ti hie, h0, hn0, if_false, if_true, Sem.run_pure, hr0, h0', g1]
          · simp only [Instr.buildSlice, Sem.run_bind, hd, Result.andThen_ok, run_size_ti hie, hlim', if_false, h0, Sem.run_pure, hz1, g1]
        · trivial
      · trivial
    · trivial
  · trivial

/-! ### make -/
def aMakeSliceE (ie : TI) (n : Int) : AR :=
  .chk (0 ≤ n ∧ n ≤ 1099511627776 ∧ ie.bytes * n ≤ 281474976710656 ∧ ie.zero.length = ie.size ∧ ie.zero.all AV.one = true) (.alloc (.rows ie.size (List.replicate n.toNat ie.zero)) (fun r => .sl r 0 n.toNat (some n.toNat)))
def aMakeSlice (P : Program) (t : TypeId) (l c : AV) : AR := match tinfo P t with
  | some i => match i.desc with
    | .slice e => match tinfo P e, l, c with
      | some ie, .int .i64 n, .int .i64 m => .chk (m = n) (aMakeSliceE ie n)
      | _, _, _ => .bad
    | _ => .bad
  | none => .bad

theorem aMakeSlice_ok {P : Program} {sn : Snap} {ρ : Env} {H : Heap} {w : World} (hR : Rel sn ρ H w) {t : TypeId} {l c : AV} {cl cc : Value} (hl : VR sn ρ l cl) (hc : VR sn ρ c cc) :
    (aMakeSlice P t l c).ok P ((asNext (Instr.makeSlice t cl cc)).run P w) sn ρ H w := by
  unfold aMakeSlice
  split
  · rename_i i ht
    obtain ⟨d, hd, hdd, hun⟩ := run_under_ti ht w
    split
    · rename_i e he
      rw [hdd] at he
      cases d <;> simp [TD.of] at he
      subst he
      rename_i e
      split
      · rename_i ie n m hie
        cases hl
        cases hc
        intro hmn
        subst hmn
        unfold aMakeSliceE
        rintro ⟨h0, h1, h2, hzl, hone⟩
        obtain ⟨inf, dd, z, q1, q2, q3, q4, q5, q6, q7⟩ := tinfo_ok hie
        have hz1 : (zeroValue e).run P w = .ok z w := by simp [zeroValue, run_info q1, q3]
        have hzr := zeroRows (sn := sn) (ρ := ρ) (n := m.toNat) q6 hzl hone
        refine newRow_ok hR hzr (by simp) (by simp only [maxLen]; omega) (some m.toNat) (fun k hk => by injection hk) (e := e) ?_
        have hw : IntKind.i64.wrap m = m := by
          simp [IntKind.wrap, IntKind.signed, IntKind.bits]
          omega
        have c1 : ¬ m < 0 := by omega
        have c2 : ¬ (281474976710656 < (inf.bytes : Int) * m) := by rw [q5]; omega
        by_cases hz : m.toNat * ie.size = 0
        · simp [Instr.makeSlice, hd, asInt, asIntOf, run_info q1, hw, c1, c2, run_size_ti hie, hz, newRow]
          have hr0 : Array.range 0 = #[] := rfl
          simp [hr0]
        · simp [Instr.makeSlice, hd, asInt, asIntOf, run_info q1, hw, c1, c2, run_size_ti hie, hz, hz1, newRow]
      · trivial
    · trivial
  · trivial

/-! ### conversions of numbers -/
def aConvD (d : TD) (s : TD) (x : AV) : AR := match d, s, x with
  | .int k, .int _, .int _ n => .val (.int k (iw k n))
  | .str, .str, .str s => .val (.str s)
  | _, _, _ => .bad
def aConvNum (P : Program) (src dst : TypeId) (x : AV) : AR := match tinfo P src, tinfo P dst with
  | some i, some j => aConvD j.desc i.desc x
  | _, _ => .bad
theorem aConvNum_ok {P : Program} {sn : Snap} {ρ : Env} {H : Heap} {w : World} {src dst : TypeId} {x : AV} {cx : Value} (hx : VR sn ρ x cx) : (aConvNum P src dst x).ok P ((asNext (convert src dst cx)).run P w) sn ρ H w := by
  unfold aConvNum
  split
  · rename_i i j hi hj
    obtain ⟨d, hd, hdd, _⟩ := run_under_ti hi w
    obtain ⟨d2, hd2, hdd2, _⟩ := run_under_ti hj w
    unfold aConvD
    split
    · rename_i k k' k2 n e1 e2
      cases hx
      rw [hdd2] at e1
      rw [hdd] at e2
      cases d2 <;> simp [TD.of] at e1
      cases d <;> simp [TD.of] at e2
      subst e1
      exact ⟨.int _ _, by simp [asNext, convert, hd, hd2, Conv.intToInt, iw], .int _ _ _⟩
    · rename_i s e1 e2
      cases hx
      rw [hdd2] at e1
      rw [hdd] at e2
      cases d2 <;> simp [TD.of] at e1
      cases d <;> simp [TD.of] at e2
      exact ⟨.string _, by simp [asNext, convert, hd, hd2], .str _ _⟩
    · trivial
  · trivial

/-! ### assertions -/
theorem aAssert_ok {P : Program} {sn : Snap} {ρ : Env} {H : Heap} {w : World} {xt t : TypeId} {x : AV} {cx : Value} (hx : VR sn ρ x cx) (ok : Bool) : (aAssert P x t ok).ok P ((asNext (Instr.typeAssert cx xt t ok)).run P w) sn ρ H w := by
  unfold aAssert
  split
  · rename_i i ht
    obtain ⟨d, hd, hdd, hun⟩ := run_under_ti ht w
    obtain ⟨inf, dd, z, q1, q2, q3, q4, q5, q6, q7⟩ := tinfo_ok ht
    have hz : (zeroValue t).run P w = .ok z w := by simp [zeroValue, run_info q1, q3]
    have hval : VR sn ρ (if i.desc.isAgg = true then .agg i.zero else i.zero.headD .any) z ∨ True := .inr trivial
    split
    · trivial
    · rename_i hnif
      have hni : ∀ ms, d ≠ .interface ms := fun ms h => by subst h; exact hnif (by rw [hdd]; rfl)
      have hrun : ∀ u v, (Instr.typeAssert (.iface u v) xt t true).run P w = if u = t then .ok (.tuple #[v, .bool true]) w else .ok (.tuple #[z, .bool false]) w := fun u v => by
        cases d <;> first
          | exact absurd rfl (hni _)
          | (by_cases e : u = t <;> simp [Instr.typeAssert, hd, hz, e])
      split
      · rename_i u v
        cases hx
        rename_i cv hcv
        split
        · rename_i e
          refine ⟨.tuple #[cv, .bool true], by simp only [asNext, Sem.run_bind, hrun, if_pos e]; rfl, .tuple _ _ _ rfl ?_⟩
          intro k a b ha hb
          match k with
          | 0 => simp at ha hb; subst ha hb; exact hcv
          | 1 => simp at ha hb; subst ha hb; exact .bool _ _
          | k + 2 => simp at ha
        · rename_i e
          refine ⟨.tuple #[z, .bool false], by simp only [asNext, Sem.run_bind, hrun, if_neg e]; rfl, .tuple _ _ _ rfl ?_⟩
          intro k a b ha hb
          match k with
          | 0 => simp at ha hb; subst ha hb; exact .any _ _
          | 1 => simp at ha hb; subst ha hb; exact .bool _ _
          | k + 2 => simp at ha
      · cases hx
        have hrun2 : (Instr.typeAssert .nilIface xt t true).run P w = .ok (.tuple #[z, .bool false]) w := by
          cases d <;> first
            | exact absurd rfl (hni _)
            | simp [Instr.typeAssert, hd, hz]
        refine ⟨.tuple #[z, .bool false], by simp only [asNext, Sem.run_bind, hrun2]; rfl, .tuple _ _ _ rfl ?_⟩
        intro k a b ha hb
        match k with
        | 0 => simp at ha hb; subst ha hb; exact .any _ _
        | 1 => simp at ha hb; subst ha hb; exact .bool _ _
        | k + 2 => simp at ha
      · rename_i u v
        cases hx
        rename_i cv hcv
        split
        · rename_i e
          have hrun3 : (Instr.typeAssert (.iface u cv) xt t false).run P w = .ok cv w := by
            cases d <;> first
              | exact absurd rfl (hni _)
              | simp [Instr.typeAssert, hd, e]
          exact ⟨cv, by simp only [asNext, Sem.run_bind, hrun3]; rfl, hcv⟩
        · trivial
      · trivial
  · trivial

/-! ### indexes of values -/
def aIndexV (P : Program) (t : TypeId) (x k : AV) : AR := match tinfo P t, k with
  | some i, .int _ n => match i.desc, x with
    | .array len e, .agg cs => match tinfo P e with
      | some ie => .chk (0 ≤ n ∧ n < (len : Int)) (if ie.desc.isAgg then .val (.agg ((cs.drop (n.toNat * ie.size)).take ie.size)) else match cs[n.toNat * ie.size]? with | some v => .val v | none => .bad)
      | none => .bad
    | .str, .str s => .chk (0 ≤ n ∧ n < (s.size : Int)) (.val (.int .u8 (((s.data.toList[n.toNat]?).getD 0).toNat : Int)))
    | _, _ => .bad
  | _, _ => .bad
theorem aIndexV_ok {P : Program} {sn : Snap} {ρ : Env} {H : Heap} {w : World} {t : TypeId} {x k : AV} {cx ck : Value} (hx : VR sn ρ x cx) (hk : VR sn ρ k ck) : (aIndexV P t x k).ok P ((asNext (Instr.index t cx ck)).run P w) sn ρ H w := by
  unfold aIndexV
  split
  · rename_i i kk n ht
    cases hk
    obtain ⟨d, hd, hdd, hun⟩ := run_under_ti ht w
    split
    · rename_i len e cs he
      rw [hdd] at he
      cases d <;> simp [TD.of] at he
      obtain ⟨rfl, rfl⟩ := he
      cases hx
      rename_i ys hs h
      split
      · rename_i ie hie
        rintro ⟨h0, h1⟩
        split
        · rename_i hag
          refine ⟨.agg (ys.extract (n.toNat * ie.size) (n.toNat * ie.size + ie.size)), by simp [asNext, Instr.index, asIntOf, hd, h0, h1, part, run_agg_ti hie, hag, run_size_ti hie], .agg _ _ _ (by simp [hs]; omega) ?_⟩
          intro m a b hm hb
          have hm2 : m < ie.size ∧ cs[n.toNat * ie.size + m]? = some a := by
            rw [List.getElem?_take] at hm
            split at hm
            · rename_i hlt; exact ⟨hlt, by simpa using hm⟩
            · cases hm
          have hb2 : ys[n.toNat * ie.size + m]? = some b := by
            rw [Array.getElem?_extract] at hb
            split at hb
            · exact hb
            · cases hb
          exact h _ _ _ hm2.2 hb2
        · rename_i hag
          split
          · rename_i v hv
            have hlt : n.toNat * ie.size < ys.size := by rw [hs]; exact (List.getElem?_eq_some_iff.1 hv).1
            exact ⟨ys[n.toNat * ie.size], by simp [asNext, Instr.index, asIntOf, hd, h0, h1, part, run_agg_ti hie, hag, run_size_ti hie, hlt], h _ _ _ hv (Array.getElem?_eq_getElem hlt)⟩
          · trivial
      · trivial
    · rename_i s he
      rw [hdd] at he
      cases d <;> simp [TD.of] at he
      cases hx
      rintro ⟨h0, h1⟩
      have hlt : n.toNat < s.size := by omega
      have hlt' : n.toNat < s.data.toList.length := by rw [Array.length_toList]; exact hlt
      refine ⟨.int .u8 ((s[n.toNat]'hlt).toNat : Int), by simp [asNext, Instr.index, asIntOf, hd, h0, hlt], ?_⟩
      have : (s.data.toList[n.toNat]?).getD 0 = s[n.toNat]'hlt := by rw [List.getElem?_eq_getElem hlt']; rfl
      rw [this]
      exact .int _ _ _
    · trivial
  · trivial
end Go.AM

set_option linter.unusedVariables false
set_option linter.unusedSimpArgs false
namespace Go.AM

/-- The zero value of a type. -/
def AV.ofZ : Value → AV
  | .agg cs => .agg (cs.toList.map AV.ofV)
  | v => .ofV v
def tzero (P : Program) (t : TypeId) : Option AV := (P.info? t).bind fun i => i.zero.map AV.ofZ
theorem ofZ_ok (sn : Snap) (ρ : Env) (v : Value) : VR sn ρ (AV.ofZ v) v := by
  unfold AV.ofZ
  split
  · rename_i cs
    refine .agg _ _ _ (by simp) fun k x y hx hy => ?_
    simp only [List.getElem?_map, Option.map_eq_some_iff] at hx
    obtain ⟨u, hu, rfl⟩ := hx
    have : cs[k]? = some u := by simpa using hu
    rw [hy] at this
    cases this
    exact ofV_ok _ _ _
  · exact ofV_ok _ _ _
theorem run_tzero {P : Program} {t : TypeId} {z : AV} (h : tzero P t = some z) (sn : Snap) (ρ : Env) (w : World) : ∃ v, (zeroValue t).run P w = .ok v w ∧ VR sn ρ z v := by
  unfold tzero at h
  simp only [Option.bind_eq_some_iff, Option.map_eq_some_iff] at h
  obtain ⟨i, hi, v, hv, rfl⟩ := h
  exact ⟨v, by simp [zeroValue, run_info hi, hv], ofZ_ok _ _ _⟩

def keyAV (d : TD) (k : AV) : Bool := match d, k with
  | .int _, .int _ _ => true
  | .bool, .bool _ => true
  | _, _ => false
def keyEq (k e : AV) : Option Bool := match k, e with
  | .int k a, .int k' b => if k = k' then some (decide (a = b)) else none
  | .bool a, .bool b => some (decide (a = b))
  | _, _ => none
def mfind (k : AV) : List (AV × AV) → Nat → Option (Option (Nat × AV))
  | [], _ => some none
  | e :: es, i => match keyEq k e.1 with
    | some true => some (some (i, e.2))
    | some false => mfind k es (i + 1)
    | none => none
theorem sameNow_ok {sn : Snap} {ρ ρ' : Env} {d : TypeDesc} {k e : AV} {ck ce : Value} (hk : VR sn ρ k ck) (he : VR sn ρ' e ce) (hd : keyAV (TD.of d) k = true) {b : Bool} (h : keyEq k e = some b) : Instr.sameNow d ck ce = some b := by
  unfold keyEq at h
  split at h
  · cases hk; cases he
    split at h
    · cases h
      cases d <;> simp [keyAV, TD.of] at hd
      subst_vars
      simp [Instr.sameNow]
      rfl
    · cases h
  · cases hk; cases he
    cases h
    cases d <;> simp [keyAV, TD.of] at hd
    simp [Instr.sameNow]
    rename_i a b
    cases a <;> cases b <;> rfl
  · cases h
def EntR (sn : Snap) (ρ : Env) (es : List (AV × AV)) (ms : List MapEntry) : Prop :=
  ms.length = es.length ∧ ∀ (k : Nat) (x : AV × AV) (m : MapEntry), es[k]? = some x → ms[k]? = some m → VR sn noEnv x.1 m.key ∧ VR sn ρ x.2 m.val
theorem EntR.tail {sn : Snap} {ρ : Env} {e : AV × AV} {es : List (AV × AV)} {m : MapEntry} {ms : List MapEntry} (h : EntR sn ρ (e :: es) (m :: ms)) : EntR sn ρ es ms :=
  ⟨by simpa using h.1, fun k x y hx hy => h.2 (k + 1) x y (by simpa using hx) (by simpa using hy)⟩
theorem findNow_ok {sn : Snap} {ρ ρ' : Env} {d : TypeDesc} {k : AV} {ck : Value} (hk : VR sn ρ' k ck) (hd : keyAV (TD.of d) k = true) : ∀ (es : List (AV × AV)) (ms : List MapEntry) (i : Nat) (r : Option (Nat × AV)), EntR sn ρ es ms → mfind k es i = some r →
    match r with
    | none => Instr.findNow d ck ms i = some none
    | some (j, v) => i ≤ j ∧ j < i + es.length ∧ ∃ cv, Instr.findNow d ck ms i = some (some (j, cv)) ∧ VR sn ρ v cv ∧ ∃ m e, ms[j - i]? = some m ∧ es[j - i]? = some e ∧ keyEq k e.1 = some true := by
  intro es
  induction es with
  | nil =>
    intro ms i r h hr
    have : ms = [] := by have := h.1; simpa using this
    subst this
    cases hr
    rfl
  | cons e es ih =>
    intro ms i r h hr
    cases ms with
    | nil => have := h.1; simp at this
    | cons m ms =>
      obtain ⟨h1, h2⟩ := h.2 0 e m rfl rfl
      simp only [mfind] at hr
      split at hr
      · rename_i he
        cases hr
        have := sameNow_ok hk h1 hd he
        exact ⟨Nat.le_refl _, by simp, m.val, by simp [Instr.findNow, this], h2, m, e, by simp, by simp, he⟩
      · rename_i he
        have hs := sameNow_ok hk h1 hd he
        have := ih ms (i + 1) r h.tail hr
        cases r with
        | none => simpa [Instr.findNow, hs] using this
        | some jv =>
          obtain ⟨j, v⟩ := jv
          obtain ⟨g1, g2, cv, g3, g4, m', e', g5, g6, g7⟩ := this
          refine ⟨by omega, by simp only [List.length_cons]; omega, cv, by simpa [Instr.findNow, hs] using g3, g4, m', e', ?_, ?_, g7⟩
          · rw [show j - i = (j - (i + 1)) + 1 by omega]; simpa using g5
          · rw [show j - i = (j - (i + 1)) + 1 by omega]; simpa using g6
      · cases hr

def mEnts (x : AV) (H : Heap) : Option (List (AV × AV)) := match x with
  | .nilmap => some []
  | .map r => match H[r]? with
    | some (.amap es) => some es
    | _ => none
  | _ => none
def lookRes (ok : Bool) (z : AV) : Option (Nat × AV) → AV
  | some (_, v) => if ok = true then .tuple [v, .bool true] else v
  | none => if ok = true then .tuple [z, .bool false] else z
def aLookupE (d : TD) (z k : AV) (ok : Bool) : Option (List (AV × AV)) → AR
  | some es => if keyAV d k = true then match mfind k es 0 with
    | some r => .val (lookRes ok z r)
    | none => .bad
    else .bad
  | none => .bad
def aLookup (P : Program) (t : TypeId) (x k : AV) (ok : Bool) (H : Heap) : AR := match tinfo P t with
  | some i => match i.desc with
    | .map kt et => match tinfo P kt, tzero P et with
      | some ki, some z => aLookupE ki.desc z k ok (mEnts x H)
      | _, _ => .bad
    | _ => .bad
  | none => .bad
def aMapUpdB (r : Nat) (k v : AV) (H : Heap) (es : List (AV × AV)) : Option (Option (Nat × AV)) → AR
  | some (some (i, _)) => .upd (H.set r (.amap (es.set i (k, v)))) .any
  | some none => .upd (H.set r (.amap (es ++ [(k, v)]))) .any
  | none => .bad
def aMapUpdE (d : TD) (r : Nat) (k v : AV) (H : Heap) : Option Blk → AR
  | some (.amap es) => if keyAV d k = true then aMapUpdB r k v H es (mfind k es 0) else .bad
  | _ => .bad
def aMapUpd (P : Program) (t : TypeId) (x k v : AV) (H : Heap) : AR := match tinfo P t with
  | some i => match i.desc with
    | .map kt et => match tinfo P kt, x with
      | some ki, .map r => aMapUpdE ki.desc r k v H H[r]?
      | _, _ => .bad
    | _ => .bad
  | none => .bad
def aMakeMap (res : Option AV) : AR := match res with
  | none => .alloc (.amap []) (fun n => .map n)
  | some _ => .bad

theorem aMakeMap_ok {P : Program} {sn : Snap} {ρ : Env} {H : Heap} {w : World} {t : TypeId} {x : Option AV} {cx : Option Value} (h : x.isNone = cx.isNone) : (aMakeMap x).ok P ((asNext (Instr.makeMap t cx)).run P w) sn ρ H w := by
  cases x with
  | some x => trivial
  | none =>
    cases cx with
    | some x => simp at h
    | none =>
      refine ⟨.map #[] 0, .map (some w.heap.size), { w with heap := w.heap.push (.map #[] 0) }, 0, 0, ?_, rfl, rfl, rfl, rfl, trivial, ⟨rfl, by simp⟩, ?_⟩
      · simp [asNext, Instr.makeMap]
      · exact .map _ _ ⟨w.heap.size, 0, 0⟩ (envPut_same _ _ _)

theorem key_noenv {sn : Snap} {ρ : Env} {d : TD} {k : AV} {ck : Value} (hk : VR sn ρ k ck) (hd : keyAV d k = true) : VR sn noEnv k ck := by
  unfold keyAV at hd
  split at hd
  · cases hk; exact .int _ _ _
  · cases hk; exact .bool _ _
  · cases hd
theorem key_check {sn : Snap} {ρ : Env} {d : TypeDesc} {k : AV} {ck : Value} (hk : VR sn ρ k ck) (hd : keyAV (TD.of d) k = true) (e : Bool) (n : Nat) {P : Program} {kt : TypeId} (w : World) (h : P.underlying kt = some d) : (Instr.checkKey e (n + 1) kt ck).run P w = .ok () w := by
  unfold Instr.checkKey
  simp only [Sem.run_bind, run_underlying h, Result.andThen]
  unfold keyAV at hd
  split at hd
  · cases hk
    cases d <;> simp [TD.of] at * <;> rfl
  · cases hk
    cases d <;> simp [TD.of] at * <;> rfl
  · cases hd
theorem key_same {sn : Snap} {ρ ρ' : Env} {k e : AV} {ck ce : Value} (hk : VR sn ρ k ck) (he : VR sn ρ' e ce) (h : keyEq k e = some true) : ce = ck ∧ Instr.sameBits 10000 ck ck = true := by
  unfold keyEq at h
  split at h
  · cases hk; cases he
    split at h
    · rename_i hkk
      simp at h
      subst h hkk
      exact ⟨rfl, by simp [Instr.sameBits]⟩
    · cases h
  · cases hk; cases he
    simp at h
    subst h
    exact ⟨rfl, by simp [Instr.sameBits]⟩
  · cases h

theorem Rel.amap {sn : Snap} {ρ : Env} {H : Heap} {w : World} (h : Rel sn ρ H w) {r : Nat} {es : List (AV × AV)} {p : Place} (hr : H[r]? = some (.amap es)) (hp : ρ r = some p) : ∃ ms clock, w.heap[p.b]? = some (.map ms clock) ∧ EntR sn ρ es ms.toList := by
  obtain ⟨_, obj, h1, h2⟩ := h.own r _ p hr trivial hp
  cases obj <;> simp only [BlkR] at h2
  exact ⟨_, _, h1, by simpa using h2.1, fun k x m hx hm => h2.2 k x m hx (by simpa using hm)⟩

theorem getO {P : Program} {w : World} {r : Nat} {es : Array MapEntry} {clock : Nat} (hb : w.heap[r]? = some (.map es clock)) : (getObj r).run P w = .ok (.map es clock) w := by
  simp [getObj, Sem.run, hb]
theorem setO {P : Program} {w : World} {r : Nat} {es : Array MapEntry} {clock : Nat} (o : Obj) (hb : w.heap[r]? = some (.map es clock)) : (setObj r o).run P w = .ok () { w with heap := w.heap.setIfInBounds r o } := by
  simp [setObj, Sem.run, hb]
theorem findK {P : Program} {w : World} {kt : TypeId} {d : TypeDesc} {k : Value} {l : List MapEntry} {a : Option (Nat × Value)} (hd : P.underlying kt = some d) (h : Instr.findNow d k l 0 = some a) : (Instr.findKey kt k l).run P w = .ok a w := by
  simp [Instr.findKey, run_underlying hd, Result.andThen, h]
theorem run_lookup {P : Program} {w : World} {t kt et : TypeId} {cx ck zv : Value} {es : Array MapEntry} {r : Option (Nat × Value)} (ok : Bool) (hcx : (cx = .map none ∧ es = #[]) ∨ ∃ b clock, cx = .map (some b) ∧ w.heap[b]? = some (.map es clock))
    (hd : P.underlying t = some (.map kt et)) (hck : ∀ e n, (Instr.checkKey e (n + 1) kt ck).run P w = .ok () w) (hf : (Instr.findKey kt ck es.toList).run P w = .ok r w) (hz : (zeroValue et).run P w = .ok zv w) :
    (Instr.lookup t cx ck ok).run P w = .ok (match r with | some (_, v) => if ok then .tuple #[v, .bool true] else v | none => if ok then .tuple #[zv, .bool false] else zv) w := by
  rcases hcx with ⟨rfl, rfl⟩ | ⟨b, clock, rfl, hb⟩
  · cases r <;> simp [Instr.lookup, run_underlying hd, Result.andThen, hck _ 9999, hf, hz]
  · cases r <;> simp [Instr.lookup, run_underlying hd, Result.andThen, hck _ 9999, hf, hz, getO hb]

theorem aLookup_ok {P : Program} {sn : Snap} {ρ : Env} {H : Heap} {w : World} (hR : Rel sn ρ H w) {t : TypeId} {x k : AV} {cx ck : Value} (hx : VR sn ρ x cx) (hk : VR sn ρ k ck) (ok : Bool) :
    (aLookup P t x k ok H).ok P ((asNext (Instr.lookup t cx ck ok)).run P w) sn ρ H w := by
  unfold aLookup
  split
  · rename_i i hi
    split
    · rename_i kt et hd
      split
      · rename_i ki z hki hz
        obtain ⟨d, hd1, hd2, hd3⟩ := run_under_ti hi w
        obtain ⟨dk, hk1, hk2, hk3⟩ := run_under_ti hki w
        obtain ⟨zv, hz1, hz2⟩ := run_tzero hz sn ρ w
        rw [hd] at hd2
        have hdm : d = .map kt et := by cases d <;> simp [TD.of] at hd2; rw [hd2.1, hd2.2]
        subst hdm
        unfold aLookupE
        split
        · rename_i es hes
          split
          · rename_i hkk
            split
            · rename_i r hr
              rw [hk2] at hkk
              have hents : ∃ ms : Array MapEntry, EntR sn ρ es ms.toList ∧ ((cx = .map none ∧ ms = #[]) ∨ ∃ b clock, cx = .map (some b) ∧ w.heap[b]? = some (.map ms clock)) := by
                unfold mEnts at hes
                split at hes
                · cases hx; cases hes
                  exact ⟨#[], ⟨rfl, by simp⟩, .inl ⟨rfl, rfl⟩⟩
                · rename_i rr
                  split at hes
                  · rename_i es' he
                    cases hes
                    cases hx
                    rename_i p hp
                    obtain ⟨ms, clock, g1, g2⟩ := hR.amap he hp
                    exact ⟨ms, g2, .inr ⟨_, _, rfl, g1⟩⟩
                  · cases hes
                · cases hes
              obtain ⟨ms, hms, hcx⟩ := hents
              have hf := findNow_ok hk hkk es ms.toList 0 r hms hr
              have two : ∀ (v : AV) (cv : Value) (b : Bool), VR sn ρ v cv → VR sn ρ (if ok = true then .tuple [v, .bool b] else v) (if ok = true then .tuple #[cv, .bool b] else cv) := by
                intro v cv b hv
                split
                · refine .tuple _ _ _ rfl fun n a c ha hc => ?_
                  match n with
                  | 0 => simp at ha hc; subst ha hc; exact hv
                  | 1 => simp at ha hc; subst ha hc; exact .bool _ _
                  | n + 2 => simp at ha
                · exact hv
              cases r with
              | none =>
                refine ⟨_, ?_, two _ zv _ hz2⟩
                have := run_lookup ok hcx hd3 (fun e n => key_check hk hkk e n w hk3) (findK hk3 hf) hz1
                simp only [asNext, Sem.run_bind, this]
                rfl
              | some jv =>
                obtain ⟨j, v⟩ := jv
                obtain ⟨_, _, cv, g1, g2, _⟩ := hf
                refine ⟨_, ?_, two _ cv _ g2⟩
                have := run_lookup ok hcx hd3 (fun e n => key_check hk hkk e n w hk3) (findK hk3 g1) hz1
                simp only [asNext, Sem.run_bind, this]
                rfl
            · trivial
          · trivial
        · trivial
      · trivial
    · trivial
  · trivial

theorem aMapUpd_ok {P : Program} {sn : Snap} {ρ : Env} {H : Heap} {w : World} (hR : Rel sn ρ H w) {t : TypeId} {x k v : AV} {cx ck cv : Value} (hx : VR sn ρ x cx) (hk : VR sn ρ k ck) (hv : VR sn ρ v cv) :
    (aMapUpd P t x k v H).ok P ((asSkip (Instr.mapUpdate t cx ck cv)).run P w) sn ρ H w := by
  unfold aMapUpd
  split
  · rename_i i hi
    split
    · rename_i kt et hd
      split
      · rename_i ki r hki
        obtain ⟨d, hd1, hd2, hd3⟩ := run_under_ti hi w
        obtain ⟨dk, hk1, hk2, hk3⟩ := run_under_ti hki w
        rw [hd] at hd2
        have hdm : d = .map kt et := by cases d <;> simp [TD.of] at hd2; rw [hd2.1, hd2.2]
        subst hdm
        unfold aMapUpdE
        split
        · rename_i es hes
          split
          · rename_i hkk
            rw [hk2] at hkk
            cases hx
            rename_i p hp
            obtain ⟨ms, clock, g1, g2⟩ := hR.amap hes hp
            have hck := fun e n => key_check hk hkk e n w hk3
            unfold aMapUpdB
            split
            · rename_i i' v' hr
              have hf := findNow_ok hk hkk es ms.toList 0 _ g2 hr
              obtain ⟨_, hlt, cv', f1, f2, m, e, f3, f4, f5⟩ := hf
              simp only [Nat.sub_zero, Nat.zero_add] at f3 f4 hlt
              have f3' : ms[i']? = some m := by simpa using f3
              obtain ⟨g3, _⟩ := g2.2 i' e m f4 f3
              obtain ⟨hsame, hbits⟩ := key_same hk g3 f5
              have hkt : (Instr.keyThatStays (((ms[i']?).map (·.key)).getD ck) ck).run P w = .ok ck w := by
                simp [Instr.keyThatStays, f3', hsame, hbits]
              obtain ⟨r1, r2⟩ := hR.update (blk' := .amap (es.set i' (k, v))) (obj := .map (ms.modify i' fun e => { e with key := ck, val := cv }) clock) hes trivial hp (by
                refine ⟨by simpa using g2.1, fun n y mm hy hmm => ?_⟩
                rw [Array.getElem?_modify] at hmm
                by_cases hn : i' = n
                · subst hn
                  rw [List.getElem?_set_self hlt] at hy
                  cases hy
                  rw [if_pos rfl, f3'] at hmm
                  cases hmm
                  exact ⟨key_noenv hk hkk, hv⟩
                · rw [List.getElem?_set_ne hn] at hy
                  rw [if_neg hn] at hmm
                  exact g2.2 n y mm hy (by simpa using hmm))
              refine ⟨undef, _, _, _, .inr ⟨?_, rfl⟩, .any _ _, r1, r2⟩
              simp [asSkip, Instr.mapUpdate, run_underlying hd3, Result.andThen, getO g1, hck _ 9999, findK hk3 f1, hkt, setO _ g1]
            · rename_i hr
              have hf := findNow_ok hk hkk es ms.toList 0 _ g2 hr
              obtain ⟨r1, r2⟩ := hR.update (blk' := .amap (es ++ [(k, v)])) (obj := .map (ms.push { key := ck, val := cv, born := clock }) (clock + 1)) hes trivial hp (by
                refine ⟨by simpa using g2.1, fun n y mm hy hmm => ?_⟩
                have hl : ms.size = es.length := by simpa using g2.1
                rw [Array.getElem?_push] at hmm
                by_cases hn : n = ms.size
                · rw [if_pos hn] at hmm
                  cases hmm
                  rw [List.getElem?_append_right (by omega)] at hy
                  rw [hn, hl] at hy
                  simp at hy
                  subst hy
                  exact ⟨key_noenv hk hkk, hv⟩
                · rw [if_neg hn] at hmm
                  have hlt : n < ms.size := by
                    have := (Array.getElem?_eq_some_iff.1 hmm).1
                    omega
                  rw [List.getElem?_append_left (by omega)] at hy
                  exact g2.2 n y mm hy (by simpa using hmm))
              refine ⟨undef, _, _, _, .inr ⟨?_, rfl⟩, .any _ _, r1, r2⟩
              simp [asSkip, Instr.mapUpdate, run_underlying hd3, Result.andThen, getO g1, hck _ 9999, findK hk3 hf, setO _ g1]
            · trivial
          · trivial
        · trivial
      · trivial
    · trivial
  · trivial

/-! ### the greater, the lesser one -/
def aMax (args : List AV) : AR := match args with
  | [.int k a, .int k' b] => if k = k' then .val (.int k (if b > a then b else a)) else .bad
  | _ => .bad
def aMin (args : List AV) : AR := match args with
  | [.int k a, .int k' b] => if k = k' then .val (.int k (if b < a then b else a)) else .bad
  | _ => .bad
theorem aMax_ok {P : Program} {sn : Snap} {ρ : Env} {H : Heap} {w : World} {ts : Array TypeId} {t : TypeId} {args : List AV} {cs : Array Value} (h : VRs sn ρ args cs.toList) : (aMax args).ok P ((asNext (Builtin.max_ ts t cs)).run P w) sn ρ H w := by
  unfold aMax
  split
  · rename_i k a k' b
    split
    · rename_i hk
      obtain ⟨l⟩ := cs
      obtain ⟨h1, h2⟩ := h
      match l, h1 with
      | [x, y], _ =>
        have hx := h2 0 _ _ rfl rfl
        have hy := h2 1 _ _ rfl rfl
        cases hx; cases hy
        exact ⟨_, by simp [asNext, Builtin.max_, Builtin.max2], .int _ _ _⟩
    · trivial
  · trivial
theorem aMin_ok {P : Program} {sn : Snap} {ρ : Env} {H : Heap} {w : World} {ts : Array TypeId} {t : TypeId} {args : List AV} {cs : Array Value} (h : VRs sn ρ args cs.toList) : (aMin args).ok P ((asNext (Builtin.min_ ts t cs)).run P w) sn ρ H w := by
  unfold aMin
  split
  · rename_i k a k' b
    split
    · rename_i hk
      obtain ⟨l⟩ := cs
      obtain ⟨h1, h2⟩ := h
      match l, h1 with
      | [x, y], _ =>
        have hx := h2 0 _ _ rfl rfl
        have hy := h2 1 _ _ rfl rfl
        cases hx; cases hy
        exact ⟨_, by simp [asNext, Builtin.min_, Builtin.min2], .int _ _ _⟩
    · trivial
  · trivial
end Go.AM

set_option linter.unusedVariables false
set_option linter.unusedSimpArgs false
namespace Go.AM
/-! ### bytes as a string -/
def rowByte : List AV → Option UInt8
  | [.int .u8 n] => some (UInt8.ofNat n.toNat)
  | _ => none
def rowBytes : List (List AV) → Option (List UInt8)
  | [] => some []
  | r :: rs => match rowByte r, rowBytes rs with
    | some b, some bs => some (b :: bs)
    | _, _ => none
def aBytesStr (o : Option (List UInt8)) : AR := match o with
  | some bs => .val (.str ⟨bs.toArray⟩)
  | none => .bad
def aConvS (P : Program) (s d : TD) (x : AV) : Option AR := match s, d, x with
  | .slice e, .str, .view _ _ xs => some (match tinfo P e with
    | some ie => match ie.desc with
      | .int .u8 => aBytesStr (rowBytes xs)
      | _ => .bad
    | none => .bad)
  | _, _, _ => none
def aConv (P : Program) (src dst : TypeId) (x : AV) : AR := match tinfo P src, tinfo P dst with
  | some i, some j => (aConvS P i.desc j.desc x).getD (aConvNum P src dst x)
  | _, _ => .bad

theorem foldl_push (ns : List Int) : ∀ (s : ByteArray), ns.foldl (fun r n => r.push (UInt8.ofNat n.toNat)) s = ⟨s.data ++ (ns.map fun n => UInt8.ofNat n.toNat).toArray⟩ := by
  induction ns with
  | nil => intro s; simp
  | cons n ns ih =>
    intro s
    rw [List.foldl_cons, ih]
    congr 1
    simp [ByteArray.push]

theorem rowBytes_ints : ∀ {xs : List (List AV)} {bs : List UInt8}, rowBytes xs = some bs → ∃ ns : List Int, xs = ns.map (fun n => [.int .u8 n]) ∧ bs = ns.map fun n => UInt8.ofNat n.toNat
  | [], bs, h => by simp [rowBytes] at h; subst h; exact ⟨[], rfl, rfl⟩
  | r :: rs, bs, h => by
    simp only [rowBytes] at h
    split at h
    · rename_i b bs' h1 h2
      injection h with h
      subst h
      obtain ⟨ns, rfl, rfl⟩ := rowBytes_ints h2
      unfold rowByte at h1
      split at h1
      · rename_i n
        injection h1 with h1
        subst h1
        exact ⟨n :: ns, rfl, rfl⟩
      · cases h1
    · cases h

theorem rowBytes_map (l : List UInt8) : rowBytes (l.map fun b => [.int .u8 (b.toNat : Int)]) = some l := by
  induction l with
  | nil => rfl
  | cons b l ih => simp [rowBytes, rowByte, ih]

/-- The cells of rows of one number. -/
theorem RowsR.ints {sn : Snap} {ρ : Env} {ns : List Int} {c : Array Value} {k : IntKind} (h : RowsR sn ρ 1 (ns.map fun n => [.int k n]) c) : c = (ns.map (Value.int k)).toArray := by
  obtain ⟨h1, h2, h3⟩ := h
  apply Array.ext_getElem?
  intro i
  simp only [List.length_map, Nat.mul_one] at h1
  by_cases hi : i < ns.length
  · obtain ⟨v, e1, e2, e3⟩ := h3 i [.int k ns[i]] (by simp [hi]) 0 _ rfl
    cases e3
    simp only [Nat.mul_one, Nat.add_zero] at e1
    rw [e1]
    simp [hi]
  · have h5 : c.size ≤ i := by rw [h1]; omega
    have h6 : (ns.map (Value.int k)).toArray.size ≤ i := by simp; omega
    rw [Array.getElem?_eq_none h5, Array.getElem?_eq_none h6]

theorem aConv_ok {P : Program} {sn : Snap} {ρ : Env} {H : Heap} {w : World} (hR : Rel sn ρ H w) {src dst : TypeId} {x : AV} {cx : Value} (hx : VR sn ρ x cx) : (aConv P src dst x).ok P ((asNext (convert src dst cx)).run P w) sn ρ H w := by
  unfold aConv
  split
  · rename_i i j hi hj
    cases hs : aConvS P i.desc j.desc x with
    | none => simp only [Option.getD_none]; exact aConvNum_ok hx
    | some r =>
      simp only [Option.getD_some]
      unfold aConvS at hs
      split at hs
      · rename_i e full sz xs e1 e2
        injection hs with hs
        subst hs
        split
        · rename_i ie hie
          split
          · rename_i e3
            cases hb : rowBytes xs with
            | none => trivial
            | some bs =>
              simp only [aBytesStr]
              obtain ⟨ns, rfl, rfl⟩ := rowBytes_ints hb
              obtain ⟨d, hd, hdd, hun⟩ := run_under_ti hi w
              obtain ⟨d2, hd2, hdd2, hun2⟩ := run_under_ti hj w
              obtain ⟨d3, hd3, hdd3, hun3⟩ := run_under_ti hie w
              rw [e1] at hdd; rw [e2] at hdd2; rw [e3] at hdd3
              cases d <;> simp [TD.of] at hdd
              subst hdd
              cases d2 <;> simp [TD.of] at hdd2
              cases d3 <;> simp [TD.of] at hdd3
              subst hdd3
              obtain ⟨a, b, o, c, vs, rfl, hl, hm, hf, ha, hz, hcl, ho, hr⟩ := hx.view_inv
              have hsz : ns.map (fun n => [AV.int .u8 n]) = [] ∨ sz = 1 := by
                cases ns with
                | nil => exact .inl rfl
                | cons n ns => exact .inr (hz 0 _ rfl).symm
              obtain ⟨g1, cc, g2, g3⟩ := elems_ok (P := P) hR hx rfl hsz rfl
              have hcc := RowsR.ints g3
              subst hcc
              replace g2 := g2 w rfl
              refine ⟨.string ⟨(ns.map fun n => UInt8.ofNat n.toNat).toArray⟩, ?_, .str _ _⟩
              have hrun : (Conv.bytesToString (.slice a (ns.map fun n => [AV.int .u8 n]).length c)).run P w = .ok (.string ⟨(ns.map fun n => UInt8.ofNat n.toNat).toArray⟩) w := by
                cases a with
                | none =>
                  have : ns = [] := by
                    cases ns with
                    | nil => rfl
                    | cons n ns => have := ha (by simp); cases this
                  subst this
                  simp [Conv.bytesToString]
                  rfl
                | some ad =>
                  simp only [Builtin.firstCells, Nat.mul_one] at g2
                  have := run_bytesToString w ad _ c ns g2
                  rw [this, foldl_push]
                  simp
              simp only [asNext, Sem.run_bind, run_convert_bytes_string w src dst _ _ _ _ hun hun3 hun2, hrun, Result.andThen_ok, Sem.run_pure]
          · trivial
        · trivial
      · cases hs
  · trivial

/-! ### a slice as an array -/
def aArrPtrD (P : Program) (d : TD) (x : AV) : AR := match d, x with
  | .array n e, .view _ sz xs => match tinfo P e with
    | some ie => .chk (sz = 1 ∧ ie.size = 1 ∧ 0 < n ∧ n ≤ xs.length) (.val (.cptr xs.flatten 0))
    | none => .bad
  | _, _ => .bad
def aArrPtr (P : Program) (t : TypeId) (x : AV) : AR := match tinfo P t with
  | some i => aArrPtrD P i.desc x
  | none => .bad
theorem flatten_one {xs : List (List AV)} (h : ∀ (i : Nat) (row : List AV), xs[i]? = some row → row.length = 1) : ∀ (k : Nat) x, xs.flatten[k]? = some x → xs[k]? = some [x] := by
  induction xs with
  | nil => intro k x hx; simp at hx
  | cons r rs ih =>
    intro k x hx
    have h0 := h 0 r rfl
    obtain ⟨y, rfl⟩ := List.length_eq_one_iff.1 h0
    cases k with
    | zero => simp at hx; subst hx; rfl
    | succ k =>
      simp only [List.flatten_cons, List.cons_append, List.nil_append, List.getElem?_cons_succ] at hx ⊢
      exact ih (fun i row hi => h (i + 1) row (by simpa using hi)) k x hx
theorem aArrPtr_ok {P : Program} {sn : Snap} {ρ : Env} {H : Heap} {w : World} {t : TypeId} {x : AV} {cx : Value} (hx : VR sn ρ x cx) : (aArrPtr P t x).ok P ((asNext (Instr.arrayAt t cx)).run P w) sn ρ H w := by
  unfold aArrPtr
  split
  · rename_i i hi
    unfold aArrPtrD
    split
    · rename_i n e full sz xs he
      split
      · rename_i ie hie
        rintro ⟨h1, h2, h3, h4⟩
        subst h1
        obtain ⟨d, hd, hdd, hun⟩ := run_under_ti hi w
        rw [he] at hdd
        cases d <;> simp [TD.of] at hdd
        obtain ⟨rfl, rfl⟩ := hdd
        obtain ⟨a, b, o, c, vs, rfl, hl, hm, hf, ha, hz, hcl, ho, hr⟩ := hx.view_inv
        have hne : xs ≠ [] := fun e => by subst e; simp at h4; omega
        obtain rfl := ha hne
        refine ⟨.pointer (some ⟨b, o, none⟩), ?_, ?_⟩
        · have : ¬ (xs.length < n) := by omega
          simp [asNext, Instr.arrayAt, hd, this]
        · have key := flatten_one hz
          refine VR.cptr' (o := o) (vs := fun k => vs k 0) (fun k x hk => ?_) (fun k x hk => ?_) (fun k x hk => ?_) rfl
          · have := hcl k _ (key k x hk) 0 x rfl
            simpa using this
          · exact ho k _ (key k x hk) 0 x rfl
          · exact hr k _ (key k x hk) 0 x rfl
      · trivial
    · trivial
  · trivial

/-! ### copy -/
def aCopyB (esz : Nat) (b : Option Blk) (r off len : Nat) (sz2 : Nat) (xs2 : List (List AV)) (nx : Nat) (H : Heap) : AR := match b with
  | some (.rows sz xs) => .chk (sz = esz ∧ (xs2 = [] ∨ sz2 = esz) ∧ xs2.length = nx ∧ nx ≤ len ∧ off + len ≤ xs.length) (.upd (H.set r (.rows sz (xs.take off ++ xs2 ++ xs.drop (off + nx)))) (.int .i64 (nx : Int)))
  | _ => .bad
def aCopyR (esz : Nat) (b : Option Blk) (r i j len : Nat) (sz2 : Nat) (xs2 : List (List AV)) (nx : Nat) (H : Heap) : AR := match b with
  | some (.rows sz xs) => .chk (esz = 1 ∧ (xs2 = [] ∨ sz2 = 1) ∧ xs2.length = nx ∧ nx ≤ len ∧ i < xs.length ∧ j + len ≤ sz) (.upd (H.set r (.rows sz (xs.set i (splice (rowAt xs i) j xs2.flatten)))) (.int .i64 (nx : Int)))
  | _ => .bad
def aCopyE (esz : Nat) (d : AV) (xe : Option (Nat × List (List AV))) (nx : Nat) (H : Heap) : AR := match d, xe with
  | .sl r off len _, some (sz2, xs2) => aCopyB esz H[r]? r off len sz2 xs2 nx H
  | .rsl r i j len, some (sz2, xs2) => aCopyR esz H[r]? r i j len sz2 xs2 nx H
  | _, _ => .bad
def aCopy (P : Program) (t : TypeId) (d x : AV) (H : Heap) : AR := match tinfo P t with
  | some i => match i.desc with
    | .slice e => match tinfo P e with
      | some ie => aCopyE ie.size d (aElems x H) (aLenOf x) H
      | none => .bad
    | _ => .bad
  | none => .bad
theorem set_self {α : Type} {x : α} : ∀ {l : List α} {i : Nat}, l[i]? = some x → l.set i x = l
  | [], _, h => by simp at h
  | y :: l, 0, h => by simp at h; simp [h]
  | y :: l, i + 1, h => by simp at h; simp [set_self h]
/-- What copy comes to, once its source's cells are known. -/
theorem run_copy {P : Program} {t t2 e : TypeId} {i ie : TI} (ht : tinfo P t = some i) (hd : i.desc = .slice e) (he : tinfo P e = some ie) {w : World} {a : Option Addr} {len c n2 : Nat} {cx : Value} {new : Array Value}
    (hlen : (Builtin.lenOf cx).run P w = .ok n2 w) (hnew : (Builtin.firstCells ie.size n2 cx).run P w = .ok new w) (hle : n2 ≤ len) (ty : TypeId) {w' : World}
    (hst : (match a with | some a => (storeCells a new.toList).run P w | none => .ok () w) = .ok () w') : (Builtin.copy_ #[t, t2] ty #[.slice a len c, cx]).run P w = .ok (.int .i64 (n2 : Int)) w' := by
  obtain ⟨d, g1, g2, g3⟩ := run_under_ti ht w
  rw [hd] at g2
  cases d <;> simp [TD.of] at g2
  subst g2
  have hmin : Nat.min n2 len = n2 := Nat.min_eq_left hle
  cases a with
  | none =>
    injection hst with _ hst
    subst hst
    simp [Builtin.copy_, g1, hlen, hmin, run_size_ti he, hnew, goInt]
  | some a =>
    simp only at hst
    simp [Builtin.copy_, g1, hlen, hmin, run_size_ti he, hnew, hst, goInt]
theorem aCopy_ok {P : Program} {sn : Snap} {ρ : Env} {H : Heap} {w : World} (hR : Rel sn ρ H w) {t t2 ty : TypeId} {s x : AV} {cs cx : Value} (hs : VR sn ρ s cs) (hx : VR sn ρ x cx) :
    (aCopy P t s x H).ok P ((asNext (Builtin.copy_ #[t, t2] ty #[cs, cx])).run P w) sn ρ H w := by
  unfold aCopy
  split
  · rename_i i ht
    split
    · rename_i e hd
      split
      · rename_i ie hie
        unfold aCopyE
        split
        · rename_i r off len cap sz2 xs2 hel
          unfold aCopyB
          split
          · rename_i sz xs hrow
            rintro ⟨hsz, hsz2, hnx, hle, hfit⟩
            subst hsz
            obtain ⟨g1, new, g2, g3⟩ := elems_ok (P := P) hR hx hel hsz2 hnx
            replace g2 := g2 w rfl
            rw [hnx] at g1 g2
            obtain ⟨a, c, rfl, hlc, hmx, hcc, hcase⟩ := hs.sl_inv
            have hz0 : new.toList = [] → new = #[] := fun e => by simpa using e
            rcases hcase with rfl | ⟨p, hp, rfl, hpn⟩
            · have h0 : aLenOf x = 0 := by omega
              have e2 : xs2 = [] := List.length_eq_zero_iff.1 (by omega)
              subst e2
              have hnil : new = #[] := by have := g3.1; simpa using this
              subst hnil
              have := run_copy (t2 := t2) (a := a) (c := 0) (w' := w) ht hd hie g1 g2 hle ty (by cases a <;> simp [storeCells])
              have e3 : xs.take off ++ [] ++ xs.drop (off + aLenOf x) = xs := by rw [h0]; simp
              rw [e3, set_self hrow]
              exact ⟨_, w, sn, ρ, .inl (by simp [asNext, this]), .int _ _ _, hR, .refl _ _ _ _⟩
            · obtain ⟨cc, t', fr, h1, h2, h3, h4, h5, h6, h7, h8⟩ := hR.rows hrow hp
              have hnl : new.toList.length = aLenOf x * ie.size := by rw [Array.length_toList, g3.1, hnx]
              have hfitc : (off + aLenOf x) * ie.size ≤ cc.size := Nat.le_trans (Nat.mul_le_mul_right _ (by omega)) h5
              rw [Nat.add_mul] at hfitc
              obtain ⟨c', s1, s2, s3⟩ := run_storeCells_blk P p.b (off * ie.size) t' fr new.toList 0 cc w h1 (by omega) g3.oneCell h8
              rw [← h3] at s1
              have := run_copy (t2 := t2) (a := some ⟨p.b, off * p.sz, none⟩) (c := c) ht hd hie g1 g2 hle ty s1
              obtain ⟨r1, r2⟩ := hR.update (blk' := .rows ie.size (xs.take off ++ xs2 ++ xs.drop (off + aLenOf x))) (obj := .cells c' t' fr) hrow trivial hp (by
                have hll : (xs.take off ++ xs2 ++ xs.drop (off + aLenOf x)).length = xs.length := by simp [hnx]; omega
                have key : ∀ (m : Nat) row, (xs.take off ++ xs2 ++ xs.drop (off + aLenOf x))[m]? = some row → (off ≤ m ∧ m < off + aLenOf x ∧ xs2[m - off]? = some row) ∨ ((m < off ∨ off + aLenOf x ≤ m) ∧ xs[m]? = some row) := fun m row hm => by
                  have hto : (xs.take off).length = off := by simp; omega
                  rw [List.append_assoc, List.getElem?_append, hto] at hm
                  split at hm
                  · rename_i hlt
                    rw [List.getElem?_take, if_pos hlt] at hm
                    exact .inr ⟨.inl hlt, hm⟩
                  · rename_i hge
                    rw [List.getElem?_append, hnx] at hm
                    split at hm
                    · exact .inl ⟨by omega, by omega, hm⟩
                    · rw [List.getElem?_drop] at hm
                      exact .inr ⟨.inr (by omega), by rw [← hm]; congr 1; omega⟩
                refine ⟨h3, h4.trans s2.symm, by rw [hll, s2]; exact h5, fun m row hm => ?_, fun m row hm j y hj => ?_, by rw [s2]; exact h8⟩
                · rcases key m row hm with ⟨_, _, hm⟩ | ⟨_, hm⟩
                  · exact g3.2.1 _ row hm
                  · exact h6 m row hm
                · rw [s3]
                  simp only [Nat.add_zero, hnl]
                  rcases key m row hm with ⟨k1, k2, hm⟩ | ⟨k1, hm⟩
                  · have hjl : j < ie.size := by have := (List.getElem?_eq_some_iff.1 hj).1; rw [g3.2.1 _ row hm] at this; exact this
                    have hlt := mul_lt_of (i := m - off) (n := aLenOf x) (by omega) hjl
                    have hmul : m * ie.size = off * ie.size + (m - off) * ie.size := by rw [← Nat.add_mul]; congr 1; omega
                    rw [if_pos (by omega)]
                    obtain ⟨v, e1, e2, e3⟩ := g3.2.2 _ row hm j y hj
                    refine ⟨v, ?_, e2, e3⟩
                    rw [Array.getElem?_toList, ← e1]
                    congr 1
                    omega
                  · have hjl : j < ie.size := by have := (List.getElem?_eq_some_iff.1 hj).1; rw [h6 m row hm] at this; exact this
                    rw [if_neg]
                    · exact h7 m row hm j y hj
                    · rcases k1 with k1 | k1
                      · have := mul_lt_of (i := m) (n := off) k1 hjl
                        omega
                      · have : (off + aLenOf x) * ie.size ≤ m * ie.size := Nat.mul_le_mul_right _ k1
                        rw [Nat.add_mul] at this
                        omega)
              exact ⟨_, _, sn, ρ, .inl (by simp [asNext, this]), .int _ _ _, r1, r2⟩
          · trivial
        · rename_i r ei j len sz2 xs2 hel
          unfold aCopyR
          split
          · rename_i sz xs hrow
            rintro ⟨hsz, hsz2, hnx, hle, hei, hfit⟩
            rw [← hsz] at hsz2
            obtain ⟨g1, new, g2, g3⟩ := elems_ok (P := P) hR hx hel hsz2 hnx
            replace g2 := g2 w rfl
            rw [hnx] at g1 g2
            rw [hsz] at g3
            obtain ⟨p, hp, rfl⟩ : ∃ p, ρ r = some p ∧ cs = .slice (some ⟨p.b, ei * p.sz + j, none⟩) len len := by cases hs; rename_i p hp _; exact ⟨p, hp, rfl⟩
            obtain ⟨cc, t', fr, h1, h2, h3, h4, h5, h6, h7, h8⟩ := hR.rows hrow hp
            subst h3
            have hnl : new.toList.length = aLenOf x := by rw [Array.length_toList, g3.1, hnx, Nat.mul_one]
            have hrow1 : xs[ei]? = some xs[ei] := List.getElem?_eq_getElem hei
            have hra : rowAt xs ei = xs[ei] := by simp [rowAt, hrow1]
            have hrl := h6 ei _ hrow1
            have hfl : xs2.flatten.length = aLenOf x := by
              rw [List.length_flatten, show xs2.map List.length = List.replicate xs2.length 1 from List.eq_replicate_iff.2 ⟨by simp, fun b hb => by
                obtain ⟨row, hr, rfl⟩ := List.mem_map.1 hb
                obtain ⟨k, hk⟩ := List.getElem?_of_mem hr
                exact g3.2.1 k row hk⟩]
              simp [hnx]
            have hfitc : ei * p.sz + j + new.toList.length ≤ cc.size := by
              have : (ei + 1) * p.sz ≤ xs.length * p.sz := Nat.mul_le_mul_right _ hei
              rw [Nat.succ_mul] at this
              omega
            obtain ⟨c', s1, s2, s3⟩ := run_storeCells_blk P p.b (ei * p.sz + j) t' fr new.toList 0 cc w h1 (by simpa using hfitc) g3.oneCell h8
            have := run_copy (t2 := t2) (a := some ⟨p.b, ei * p.sz + j, none⟩) (c := len) ht hd hie g1 g2 hle ty s1
            have hjl : j + xs2.flatten.length ≤ (rowAt xs ei).length := by rw [hra, hrl, hfl]; omega
            obtain ⟨r1, r2⟩ := hR.update (blk' := .rows p.sz (xs.set ei (splice (rowAt xs ei) j xs2.flatten))) (obj := .cells c' t' fr) hrow trivial hp (by
              refine ⟨rfl, h4.trans s2.symm, by simpa [s2] using h5, fun a row ha => ?_, fun a row ha k y hk => ?_, by rw [s2]; exact h8⟩
              · rcases getElem?_set_list ha with ⟨rfl, rfl⟩ | ⟨_, ha⟩
                · rw [splice_length hjl, hra, hrl]
                · exact h6 a row ha
              · have hkl : k < p.sz := by
                  have hkk := (List.getElem?_eq_some_iff.1 hk).1
                  rcases getElem?_set_list ha with ⟨rfl, rfl⟩ | ⟨_, ha⟩
                  · rw [splice_length hjl, hra, hrl] at hkk; exact hkk
                  · rw [h6 a row ha] at hkk; exact hkk
                rw [s3]
                simp only [Nat.add_zero]
                rcases getElem?_set_list ha with ⟨rfl, rfl⟩ | ⟨hae, ha⟩
                · rw [splice_get hjl] at hk
                  split at hk
                  · rename_i hin
                    have hx2 := flatten_one g3.2.1 _ _ hk
                    obtain ⟨u, hu1, hu2, hu3⟩ := g3.2.2 _ _ hx2 0 y rfl
                    rw [if_pos (by omega)]
                    refine ⟨u, ?_, hu2, hu3⟩
                    rw [Array.getElem?_toList, ← hu1]
                    congr 1
                    omega
                  · rename_i hout
                    rw [if_neg (by omega)]
                    rw [hra] at hk
                    exact h7 a _ hrow1 k y hk
                · rw [if_neg]
                  · exact h7 a row ha k y hk
                  · intro hin
                    have : a * p.sz + k = ei * p.sz + (k + a * p.sz - ei * p.sz) := by omega
                    exact hae (mul_inj_of hkl (by omega) this).1)
            exact ⟨_, _, sn, ρ, .inl (by simp [asNext, this]), .int _ _ _, r1, r2⟩
          · trivial
        · trivial
      · trivial
    · trivial
  · trivial
end Go.AM

set_option linter.unusedVariables false
set_option linter.unusedSimpArgs false
namespace Go.AM

/-! ### exits, calls -/
inductive Out where
  | ret (v : AV)
  | pan (v : AV)
inductive AX where
  | normal | ret
  | exit (id : Nat)
  | pan (v : AV)

def OutR (sn : Snap) (ρ : Env) : Out → Ending → Prop
  | .ret x, .returned v => VR sn ρ x v
  | .pan x, .panicked [{ v, recovered := false, goexit := false }] => VR sn ρ x v
  | _, _ => False
def AXR (sn : Snap) (ρ : Env) : AX → Exit → Prop
  | .normal, .normal => True
  | .ret, .ret => True
  | .exit i, .exit j => i = j
  | .pan x, .panic [{ v, recovered := false, goexit := false }] => VR sn ρ x v
  | _, _ => False

abbrev CQ := Out → Heap → Prop
abbrev KQ := Ch → Heap → Prop
abbrev XQ := AX → Ch → Heap → Prop

/-- A call, of abstract arguments in an abstract heap. -/
def ACalls (P : Program) (f : FuncId) (args : List AV) (H : Heap) (Q : CQ) : Prop :=
  ∀ (sn : Snap) (ρ : Env) (w : World) (vs : Array Value), Rel sn ρ H w → VRs sn ρ args vs.toList →
    Calls P f vs w fun e w' => ∃ sn' ρ' H' out, OutR sn' ρ' out e ∧ Rel sn' ρ' H' w' ∧ Ext sn ρ H w sn' ρ' H' w' ∧ Q out H'

/-- What stays the same in a function: the calls that are deferred, and how many blocks it was given. -/
structure Fx where
  D : List Deferred
  B : Nat
  cuts : List Nat
/-- What may have happened since the function (or a part of it) began. -/
structure ExtB (B : Nat) (sn : Snap) (ρ : Env) (H : Heap) (w : World) (sn' : Snap) (ρ' : Env) (H' : Heap) (w' : World) : Prop where
  env : ∀ r, r < B → ρ' r = ρ r
  len : B ≤ H'.length
  snap : ∀ b o, sn b = some o → sn' b = some o
  below : w.heap.size ≤ w'.heap.size
  os : w'.os = w.os
  tape : w'.tape = w.tape
  output : w'.output = w.output
  frame : ∀ b, b < w.heap.size → ¬ Owned ρ H b → w'.heap[b]? = w.heap[b]?
  newsnap : ∀ b, sn' b ≠ sn b → w.heap.size ≤ b ∨ Owned ρ H b
  newown : ∀ b, Owned ρ' H' b → w.heap.size ≤ b ∨ Owned ρ H b
theorem Ext.b {sn sn' : Snap} {ρ ρ' : Env} {H H' : Heap} {w w' : World} (h : Ext sn ρ H w sn' ρ' H' w') {B : Nat} (hB : B ≤ H.length) : ExtB B sn ρ H w sn' ρ' H' w' :=
  ⟨fun r hr => h.envlt r (by omega), Nat.le_trans hB h.len, h.snap, h.below, h.os, h.tape, h.output, h.frame, h.newsnap, h.newown⟩
theorem ExtB.trans {B : Nat} {sn sn1 sn2 : Snap} {ρ ρ1 ρ2 : Env} {H H1 H2 : Heap} {w w1 w2 : World} (a : ExtB B sn ρ H w sn1 ρ1 H1 w1) (b : ExtB B sn1 ρ1 H1 w1 sn2 ρ2 H2 w2) : ExtB B sn ρ H w sn2 ρ2 H2 w2 where
  env := fun r h => (b.env r h).trans (a.env r h)
  len := b.len
  snap := fun x o h => b.snap x o (a.snap x o h)
  below := Nat.le_trans a.below b.below
  os := b.os.trans a.os
  tape := b.tape.trans a.tape
  output := b.output.trans a.output
  frame := fun x hx ho => by
    have h1 : ¬ Owned ρ1 H1 x := fun h => by
      rcases a.newown x h with h | h
      · omega
      · exact ho h
    exact (b.frame x (Nat.lt_of_lt_of_le hx a.below) h1).trans (a.frame x hx ho)
  newsnap := fun x h => by
    by_cases h1 : sn1 x = sn x
    · rcases b.newsnap x (by rw [h1]; exact h) with h2 | h2
      · exact .inl (Nat.le_trans a.below h2)
      · exact a.newown x h2
    · exact a.newsnap x h1
  newown := fun x h => by
    rcases b.newown x h with h2 | h2
    · exact .inl (Nat.le_trans a.below h2)
    · exact a.newown x h2
theorem ExtB.refl {B : Nat} {sn : Snap} {ρ : Env} {H : Heap} {w : World} (hB : B ≤ H.length) : ExtB B sn ρ H w sn ρ H w := (Ext.refl sn ρ H w).b hB

/-- Every function, in activations or in the rounds of a loop. -/
def FR (ro : Option Nat) : Fence := { Fence.wide with round := ro }
/-- What is asked of code, in activations and in rounds: n slots. -/
def SWp (P : Program) (n : Nat) (D : Fx) (c : Code) (Q : XQ) (s : Ch) (H : Heap) : Prop :=
  ∀ (ro : Option Nat) (sn : Snap) (ρ : Env) (w : World) (a : Act), Rel sn ρ H w → SR sn ρ n s a.tmps → a.defers = D.D → D.B ≤ H.length →
    c.wpIn (FR ro) 0 P (fun e a' w' => ∃ sn' ρ' H' s' x, AXR sn' ρ' x e ∧ Rel sn' ρ' H' w' ∧ SR sn' ρ' n s' a'.tmps ∧ a'.defers = D.D ∧ ExtB D.B sn ρ H w sn' ρ' H' w' ∧ Q x s' H') a w

/-- What is asked of the rest of a region. -/
def SOps (P : Program) (n : Nat) (D : Fx) (ops : Array Oper) (l : List Nat) (Q : XQ) (s : Ch) (H : Heap) : Prop :=
  ∀ (sn : Snap) (ρ : Env) (w : World) (a : Act), Rel sn ρ H w → SR sn ρ n s a.tmps → a.defers = D.D → D.B ≤ H.length →
    wpOps P ops (fun e a' w' => ∃ sn' ρ' H' s' x, AXR sn' ρ' x e ∧ Rel sn' ρ' H' w' ∧ SR sn' ρ' n s' a'.tmps ∧ a'.defers = D.D ∧ ExtB D.B sn ρ H w sn' ρ' H' w' ∧ Q x s' H') l a w

theorem ACalls.mono {P : Program} {f : FuncId} {args : List AV} {H : Heap} {Q Q' : CQ} (h : ACalls P f args H Q) (hq : ∀ o H', Q o H' → Q' o H') : ACalls P f args H Q' :=
  fun sn ρ w vs hR hv => (h sn ρ w vs hR hv).mono fun e w' ⟨sn', ρ', H', out, h1, h2, h3, h4⟩ => ⟨sn', ρ', H', out, h1, h2, h3, hq _ _ h4⟩

/-! ### the operations -/
def evs (s : Ch) (xs : Array Operand) : List AV := xs.toList.map (cev s)
def evParts (s : Ch) (ps : Array (Nat × Operand)) : List (Nat × AV) := ps.toList.map fun p => (p.1, cev s p.2)

def aCallV (f : AV) (args : List AV) : AR := match f with
  | .func (.func g) first cap => .call g (first ++ args ++ cap)
  | _ => .bad
def aPanIf (x : AV) : AR := match x with
  | .iface u v => .pan (.iface u v)
  | _ => .bad
def aLenA (P : Program) (ts : List TypeId) (args : List AV) : AR := match ts, args with
  | [t], [x] => aLen P t x
  | _, _ => .bad
def aAppendA (P : Program) (ts : List TypeId) (args : List AV) (H : Heap) : AR := match ts, args with
  | [t, t2], [s, x] => aAppend P t t2 s x H
  | _, _ => .bad
def aCopyA (P : Program) (ts : List TypeId) (args : List AV) (H : Heap) : AR := match ts, args with
  | [t, _], [s, x] => aCopy P t s x H
  | _, _ => .bad
def aPanA (args : List AV) : AR := match args with
  | [x] => aPanIf x
  | _ => .bad
def aBuiltin (P : Program) (b : Builtin) (ts : List TypeId) (args : List AV) (H : Heap) : AR := match b with
  | .len => aLenA P ts args
  | .append => aAppendA P ts args H
  | .copy => aCopyA P ts args H
  | .panic => aPanA args
  | .max => aMax args
  | .min => aMin args
  | _ => .bad
def aop (P : Program) (s : Ch) (H : Heap) : Op → AR
  | .move x | .assign x => .val (cev s x)
  | .pick c a b => aPick (cev s c) (cev s a) (cev s b)
  | .alloc t => aAlloc P t
  | .box _ x => aBox (cev s x).cells
  | .build t ps => aBuild P t (evParts s ps)
  | .buildSlice t len ps => aBuildSlice P t len (evParts s ps)
  | .load t x => aLoad P t (cev s x) H
  | .store t x v => aStore P t (cev s x) (cev s v) H
  | .nilCheck x => aNilCheck (cev s x)
  | .binOp op t x y _ => aBinO P op t y (cev s x) (cev s y)
  | .unOp op _ x => aUn op (cev s x)
  | .convert src dst x => aConv P src dst (cev s x)
  | .sliceToArrayPointer t x => aArrPtr P t (cev s x)
  | .insert t m k x => aMapUpd P t (cev s m) (cev s k) (cev s x) H
  | .makeInterface t x => aMakeIface P t (cev s x)
  | .makeFunc fn first cap => .val (.func fn (evs s first) (evs s cap))
  | .makeSlice t l c => aMakeSlice P t (cev s l) (cev s c)
  | .slice t x lo hi mx => aSlice P t (cev s x) H (lo.map (cev s)) (hi.map (cev s)) (mx.map (cev s))
  | .fieldAddr t x f => aFieldAddr P t (cev s x) f
  | .field t x f => aField P t (cev s x) f
  | .indexAddr t x k => aIndexAddr P t (cev s x) (cev s k) H
  | .index t x k => aIndexV P t (cev s x) (cev s k)
  | .typeAssert x _ t ok => aAssert P (cev s x) t ok
  | .extract x k => aExtract (cev s x) k
  | .call c => match c.callee with
    | .value f => aCallV (cev s f) (evs s c.args)
    | .builtin b => aBuiltin P b c.argTypes.toList (evs s c.args) H
    | .invoke _ _ => .bad
  | .panic x => aPanIf (cev s x)
  | .lookup t x k ok => aLookup P t (cev s x) (cev s k) ok H
  | .mapUpdate t x k v => aMapUpd P t (cev s x) (cev s k) (cev s v) H
  | .makeMap _ r => aMakeMap (r.map (cev s))
  | _ => .bad

theorem VR.func_inv {sn : Snap} {ρ : Env} {fn : Fn} {xs ys : List AV} {v : Value} (h : VR sn ρ (.func fn xs ys) v) : ∃ us vs, v = .func fn us vs ∧ VRs sn ρ xs us.toList ∧ VRs sn ρ ys vs.toList := by
  cases h with
  | func _ _ _ _ us vs hu hv h1 h2 => exact ⟨us, vs, rfl, ⟨by simpa using hu, fun k x y hx hy => h1 k x y hx (by simpa using hy)⟩, ⟨by simpa using hv, fun k x y hx hy => h2 k x y hx (by simpa using hy)⟩⟩

theorem aPanIf_ok {P : Program} {sn : Snap} {ρ : Env} {H : Heap} {w : World} {x : AV} {cx : Value} (hx : VR sn ρ x cx) : (aPanIf x).ok P ((asNext (Instr.panic cx)).run P w) sn ρ H w := by
  unfold aPanIf
  split
  · cases hx
    rename_i cv hcv
    exact ⟨.iface _ cv, by simp [asNext, Instr.panic], .iface _ _ _ _ hcv⟩
  · trivial

theorem evs_one {s : Ch} {args : Array Operand} {x : AV} (h : evs s args = [x]) : ∃ o, args = #[o] ∧ x = cev s o := by
  obtain ⟨l⟩ := args
  simp only [evs] at h
  cases l with
  | nil => simp at h
  | cons o l => cases l with
    | nil => simp at h; exact ⟨o, rfl, h.symm⟩
    | cons => simp at h
theorem evs_two {s : Ch} {args : Array Operand} {x y : AV} (h : evs s args = [x, y]) : ∃ o q, args = #[o, q] ∧ x = cev s o ∧ y = cev s q := by
  obtain ⟨l⟩ := args
  simp only [evs] at h
  match l, h with
  | [o, q], h => simp at h; exact ⟨o, q, rfl, h.1.symm, h.2.symm⟩
theorem arr_of {α : Type} {a : Array α} {l : List α} (h : a.toList = l) : a = l.toArray := by rw [← h]

theorem evs_ok {sn : Snap} {ρ : Env} {n : Nat} {s : Ch} {a : Act} (hg : GlOk sn) (h : SR sn ρ n s a.tmps) (xs : Array Operand) : VRs sn ρ (evs s xs) (xs.map a.eval).toList := by
  refine ⟨by simp [evs], fun k x y hx hy => ?_⟩
  simp only [evs, List.getElem?_map, Option.map_eq_some_iff] at hx
  obtain ⟨o, ho, rfl⟩ := hx
  simp only [Array.toList_map, List.getElem?_map, ho, Option.map_some, Option.some.injEq] at hy
  subst hy
  exact cev_ok hg h o

theorem evParts_ok {sn : Snap} {ρ : Env} {n : Nat} {s : Ch} {a : Act} (hg : GlOk sn) (h : SR sn ρ n s a.tmps) (ps : Array (Nat × Operand)) : PartsR sn ρ (evParts s ps) (ps.map fun (i, x) => (i, a.eval x)).toList := by
  refine ⟨by simp [evParts], fun k x y hx hy => ?_⟩
  simp only [evParts, List.getElem?_map, Option.map_eq_some_iff] at hx
  obtain ⟨o, ho, rfl⟩ := hx
  simp only [Array.toList_map, List.getElem?_map, ho, Option.map_some, Option.some.injEq] at hy
  subst hy
  exact ⟨rfl, cev_ok hg h o.2⟩

theorem optR_ok {sn : Snap} {ρ : Env} {n : Nat} {s : Ch} {a : Act} (hg : GlOk sn) (h : SR sn ρ n s a.tmps) (x : Option Operand) : OptR sn ρ (x.map (cev s)) (x.map a.eval) := by
  cases x with
  | none => trivial
  | some x => exact cev_ok hg h x

theorem VRs.append {sn : Snap} {ρ : Env} {a b : List AV} {c d : List Value} (h : VRs sn ρ a c) (k : VRs sn ρ b d) : VRs sn ρ (a ++ b) (c ++ d) := by
  refine ⟨by simp [h.1, k.1], fun m x y hx hy => ?_⟩
  rw [List.getElem?_append] at hx hy
  rw [h.1] at hy
  split at hx
  · rename_i hlt; rw [if_pos hlt] at hy; exact h.2 m x y hx hy
  · rename_i hlt; rw [if_neg hlt] at hy; exact k.2 _ x y hx hy

/-- The functions that have bodies: a call of one enters it. -/
def Enters (P : Program) (f : FuncId) : Prop := ∀ (vs : Array Value) (w : World), (callFunc f vs).run P w = .ok (.enter f vs) w

theorem enters_of {P : Program} {f : FuncId} {fn : Func} {c : Code} (hf : P.funcs[f]? = some fn) (hb : fn.body = some c) (hn : fn.name ≠ "runtime.NumGoroutine") : Enters P f := by
  intro vs w
  simp [callFunc, hf, hn, hb]

/-- Each function that an abstract call enters has a body. -/
def AR.enters (P : Program) : AR → Prop
  | .call f _ => Enters P f
  | .chk p r => p → r.enters P
  | _ => True

theorem aop_ok {P : Program} {sn : Snap} {ρ : Env} {n : Nat} {H : Heap} {w : World} {s : Ch} {a : Act} (hR : Rel sn ρ H w) (hs : SR sn ρ n s a.tmps) (o : Oper) (hE : (aop P s H o.op).enters P) :
    (aop P s H o.op).ok P ((execOp a.eval o).run P w) sn ρ H w := by
  obtain ⟨dst, op, type, pos, after, guard⟩ := o
  simp only at hE ⊢
  cases op <;> simp only [aop] at hE ⊢ <;> try trivial
  case move x => exact ⟨_, rfl, cev_ok hR.gl hs x⟩
  case assign x => exact ⟨_, rfl, cev_ok hR.gl hs x⟩
  case pick c x y => exact aPick_ok (cev_ok hR.gl hs c) (cev_ok hR.gl hs x) (cev_ok hR.gl hs y)
  case alloc t => exact aAlloc_ok hR t _
  case box t x => exact aBox_ok hR t (cev_ok hR.gl hs x)
  case build t ps => exact aBuild_ok (evParts_ok hR.gl hs ps)
  case buildSlice t len ps => exact aBuildSlice_ok hR (evParts_ok hR.gl hs ps)
  case load t x => exact aLoad_ok hR (cev_ok hR.gl hs x)
  case store t x v => exact aStore_ok hR (cev_ok hR.gl hs x) (cev_ok hR.gl hs v)
  case nilCheck x => exact aNilCheck_ok (cev_ok hR.gl hs x)
  case binOp op t x y u => exact aBinO_ok hR.gl hs op t x y
  case unOp op t x => exact aUn_ok op (cev_ok hR.gl hs x)
  case convert src dst x => exact aConv_ok hR (cev_ok hR.gl hs x)
  case sliceToArrayPointer t x => exact aArrPtr_ok (cev_ok hR.gl hs x)
  case insert t m k x => exact aMapUpd_ok hR (cev_ok hR.gl hs m) (cev_ok hR.gl hs k) (cev_ok hR.gl hs x)
  case makeInterface t x => exact aMakeIface_ok (cev_ok hR.gl hs x)
  case makeFunc fn first cap =>
    have h1 := evs_ok hR.gl hs first
    have h2 := evs_ok hR.gl hs cap
    exact ⟨_, rfl, .func _ _ _ _ _ _ (by simpa using h1.1) (by simpa using h2.1) (fun k x y hx hy => h1.2 k x y hx (by simpa using hy)) (fun k x y hx hy => h2.2 k x y hx (by simpa using hy))⟩
  case makeSlice t l c => exact aMakeSlice_ok hR (cev_ok hR.gl hs l) (cev_ok hR.gl hs c)
  case slice t x lo hi mx => exact aSlice_ok hR (cev_ok hR.gl hs x) (optR_ok hR.gl hs lo) (optR_ok hR.gl hs hi) (optR_ok hR.gl hs mx)
  case fieldAddr t x f => exact aFieldAddr_ok (cev_ok hR.gl hs x)
  case field t x f => exact aField_ok (cev_ok hR.gl hs x)
  case indexAddr t x k => exact aIndexAddr_ok hR (cev_ok hR.gl hs x) (cev_ok hR.gl hs k)
  case index t x k => exact aIndexV_ok (cev_ok hR.gl hs x) (cev_ok hR.gl hs k)
  case typeAssert x xt t ok => exact aAssert_ok (cev_ok hR.gl hs x) ok
  case extract x k => exact aExtract_ok (cev_ok hR.gl hs x) k
  case panic x => exact aPanIf_ok (cev_ok hR.gl hs x)
  case lookup t x k ok => exact aLookup_ok hR (cev_ok hR.gl hs x) (cev_ok hR.gl hs k) ok
  case mapUpdate t x k v => exact aMapUpd_ok hR (cev_ok hR.gl hs x) (cev_ok hR.gl hs k) (cev_ok hR.gl hs v)
  case makeMap t r => exact aMakeMap_ok (by cases r <;> rfl)
  case call c =>
    obtain ⟨callee, args, argTypes⟩ := c
    have hargs := evs_ok hR.gl hs args
    cases callee with
    | invoke r m => trivial
    | value f =>
      simp only at hE ⊢
      have hf := cev_ok hR.gl hs f
      unfold aCallV at hE ⊢
      generalize cev s f = af at hf hE
      generalize hcf : a.eval f = cf at hf
      split
      · rename_i g first cap
        obtain ⟨us, vs, rfl, e1, e2⟩ := hf.func_inv
        have hE' : Enters P g := hE
        refine ⟨us ++ args.map a.eval ++ vs, ?_, ?_⟩
        · simp [execOp, resolve, hcf, Deferred.ofValue, invoke, hE' _ _]
        · have := (e1.append hargs).append e2
          simpa using this
      · trivial
    | builtin b =>
      simp only at hE ⊢
      cases b <;> simp only [aBuiltin] <;> try trivial
      case len =>
        unfold aLenA
        split
        · rename_i t x ht he
          obtain ⟨o, rfl, rfl⟩ := evs_one he
          have := arr_of ht
          subst this
          have := aLen_ok (P := P) (H := H) (w := w) (t := t) (u := type) (cev_ok hR.gl hs o)
          simpa [execOp, resolve, invoke, builtin] using this
        · trivial
      case append =>
        unfold aAppendA
        split
        · rename_i t t2 x y ht he
          obtain ⟨o, q, rfl, rfl, rfl⟩ := evs_two he
          have := arr_of ht
          subst this
          have := aAppend_ok (P := P) hR (t := t) (t2 := t2) (ty := type) (cev_ok hR.gl hs o) (cev_ok hR.gl hs q)
          simpa [execOp, resolve, invoke, builtin] using this
        · trivial
      case copy =>
        unfold aCopyA
        split
        · rename_i t t2 x y ht he
          obtain ⟨o, q, rfl, rfl, rfl⟩ := evs_two he
          have := arr_of ht
          subst this
          have := aCopy_ok (P := P) hR (t := t) (t2 := t2) (ty := type) (cev_ok hR.gl hs o) (cev_ok hR.gl hs q)
          simpa [execOp, resolve, invoke, builtin] using this
        · trivial
      case max => simpa [execOp, resolve, invoke, builtin] using aMax_ok (P := P) (H := H) (w := w) (ts := argTypes) (t := type) hargs
      case min => simpa [execOp, resolve, invoke, builtin] using aMin_ok (P := P) (H := H) (w := w) (ts := argTypes) (t := type) hargs
      case panic =>
        unfold aPanA
        split
        · rename_i x he
          obtain ⟨o, rfl, rfl⟩ := evs_one he
          have := aPanIf_ok (P := P) (H := H) (w := w) (cev_ok hR.gl hs o)
          simpa [execOp, resolve, invoke, builtin] using this
        · trivial

/-! ### the rest of a region, in its order -/
def Ch.put? (s : Ch) (d : Option Tmp) (v : AV) : Ch := match d with
  | some d => s.put d v
  | none => s
/-- What is left behind an operation. -/
def AR.k (P : Program) (r : AR) (H : Heap) (K : AV → Heap → Prop) (X : AV → Heap → Prop) : Prop := match r with
  | .bad => False
  | .val v => K v H
  | .chk p r => p ∧ r.k P H K X
  | .ndb p => ∀ b, p b → K (.bool b) H
  | .alloc b v => K (v H.length) (H ++ [b])
  | .upd H' v => K v H'
  | .call f args => Enters P f ∧ ACalls P f args H (fun o H' => match o with | .ret v => K v H' | .pan v => X v H')
  | .pan v => X v H
/-- The operation defers nothing. -/
def noDef (o : Oper) : Bool := match o.op with
  | .defer _ => false
  | _ => true
def dstOk (n : Nat) (o : Oper) : Bool := match o.dst with
  | some d => decide (d < n)
  | none => true

theorem AR.enters_of_k {P : Program} {H : Heap} {K X : AV → Heap → Prop} : ∀ {r : AR}, r.k P H K X → r.enters P
  | .bad, h => trivial
  | .val v, h => trivial
  | .chk p r, h => fun _ => AR.enters_of_k h.2
  | .ndb p, h => trivial
  | .alloc b v, h => trivial
  | .upd H' v, h => trivial
  | .call f args, h => h.1
  | .pan v, h => trivial
end Go.AM

set_option linter.unusedVariables false
set_option linter.unusedSimpArgs false
namespace Go.AM

theorem SR.put? {sn : Snap} {ρ : Env} {n : Nat} {s : Ch} {a : Act} (h : SR sn ρ n s a.tmps) {o : Oper} (hd : dstOk n o = true) {x : AV} {v : Value} (hv : VR sn ρ x v) : SR sn ρ n (s.put? o.dst x) (a.put o.dst v).tmps := by
  unfold dstOk at hd
  cases ho : o.dst with
  | none => simpa [Ch.put?, Act.put, ho] using h
  | some d => simp only [ho, decide_eq_true_eq] at hd; exact h.put hd hv

theorem put_defers (a : Act) (d : Option Tmp) (v : Value) : (a.put d v).defers = a.defers := by cases d <;> rfl

theorem OutR.ret_inv {sn : Snap} {ρ : Env} {out : Out} {v : Value} (h : OutR sn ρ out (.returned v)) : ∃ x, out = .ret x ∧ VR sn ρ x v := by
  cases out with
  | ret x => exact ⟨x, rfl, h⟩
  | pan x => exact h.elim
theorem OutR.pan_inv {sn : Snap} {ρ : Env} {out : Out} {ch : List PanicEntry} (h : OutR sn ρ out (.panicked ch)) : ∃ x v, out = .pan x ∧ ch = [{ v, recovered := false }] ∧ VR sn ρ x v := by
  cases out with
  | ret x => exact h.elim
  | pan x =>
    unfold OutR at h
    split at h
    · rename_i h1 h2; cases h1
    · rename_i y v h1 h2
      cases h1
      cases h2
      exact ⟨_, v, rfl, rfl, h⟩
    · exact h.elim

/-- What an abstract operation comes to, in the machine. -/
theorem upon_ok {P : Program} {sn : Snap} {ρ : Env} {H : Heap} {w : World} {o : Oper} {a : Act} {next : Act → World → Prop} {Q : Exit → Act → World → Prop} {K X : AV → Heap → Prop} {run : Result Next} (hR : Rel sn ρ H w)
    (hnext : ∀ sn' ρ' H' w' v cv, Rel sn' ρ' H' w' → Ext sn ρ H w sn' ρ' H' w' → VR sn' ρ' v cv → K v H' → next (a.put o.dst cv) w')
    (hpan : ∀ sn' ρ' H' w' v cv, Rel sn' ρ' H' w' → Ext sn ρ H w sn' ρ' H' w' → VR sn' ρ' v cv → X v H' → Q (.panic [{ v := cv, recovered := false }]) a w') :
    ∀ (r : AR), r.ok P run sn ρ H w → r.k P H K X → o.upon P a next Q run := by
  intro r
  induction r with
  | bad => intro _ h; exact h.elim
  | val v =>
    rintro ⟨cv, rfl, hv⟩ hk
    exact hnext sn ρ H w v cv hR (.refl _ _ _ _) hv hk
  | chk p r ih => intro h hk; exact ih (h hk.1) hk.2
  | ndb p =>
    rintro ⟨b, rfl, hb⟩ hk
    exact hnext sn ρ H w _ _ hR (.refl _ _ _ _) (.bool _ _) (hk b hb)
  | alloc b v =>
    rintro ⟨obj, cv, w', sz, n, rfl, h1, h2, h3, h4, h5, h6, h7⟩ hk
    obtain ⟨q1, q2⟩ := hR.push h1 h2 h3 h4 h5 h6
    exact hnext _ _ _ _ _ _ q1 q2 h7 hk
  | upd H' v =>
    rintro ⟨cv, w', sn', ρ', hrun, hv, q1, q2⟩ hk
    rcases hrun with rfl | ⟨rfl, rfl⟩
    · exact hnext _ _ _ _ _ _ q1 q2 hv hk
    · exact hnext _ _ _ _ _ _ q1 q2 hv hk
  | call f args =>
    rintro ⟨vs, rfl, hv⟩ ⟨_, hk⟩
    refine (hk sn ρ w vs hR hv).mono ?_
    rintro e w' ⟨sn', ρ', H', out, h1, h2, h3, h4⟩
    cases e with
    | returned v =>
      obtain ⟨x, rfl, hx⟩ := h1.ret_inv
      exact hnext _ _ _ _ _ _ h2 h3 hx h4
    | panicked ch =>
      obtain ⟨x, v, rfl, rfl, hx⟩ := h1.pan_inv
      exact hpan _ _ _ _ _ _ h2 h3 hx h4
    | outgrown => cases out <;> exact h1.elim
  | pan v =>
    rintro ⟨cv, rfl, hv⟩ hk
    exact hpan sn ρ H w v cv hR (.refl _ _ _ _) hv hk

theorem LetsOut.mono {Q Q' : Exit → Act → World → Prop} (hq : ∀ e a w, Q e a w → Q' e a w) (h : LetsOut Q) : LetsOut Q' := let ⟨a, w, h⟩ := h; ⟨a, w, hq _ _ _ h⟩
theorem upon_mono {P : Program} {o : Oper} {a : Act} {K K' : Act → World → Prop} {Q Q' : Exit → Act → World → Prop} (hk : ∀ a w, K a w → K' a w) (hq : ∀ e a w, Q e a w → Q' e a w) {r : Result Next} (h : o.upon P a K Q r) : o.upon P a K' Q' r := by
  cases r with
  | ok n w' =>
    cases n <;> simp only [Oper.upon] at h ⊢ <;> first
      | exact h.elim
      | exact hk _ _ h
      | exact h.mono (fun e w'' he => by cases e <;> first | exact hk _ _ he | exact hq _ _ _ he | exact LetsOut.mono hq he)
      | exact Rows.mono h (fun _ _ he => hk _ _ he)
  | halt x w' => cases x <;> simp only [Oper.upon] at h ⊢ <;> exact hq _ _ _ h
theorem wpOps_mono {P : Program} {ops : Array Oper} {Q Q' : Exit → Act → World → Prop} (hq : ∀ e a w, Q e a w → Q' e a w) : ∀ (l : List Nat) (a : Act) (w : World), wpOps P ops Q l a w → wpOps P ops Q' l a w := by
  intro l
  induction l with
  | nil => intro a w h; exact hq _ _ _ h
  | cons i rest ih =>
    intro a w h
    simp only [wpOps] at h ⊢
    split
    · rename_i ho
      simp only [ho] at h
      exact ih _ _ h
    · rename_i o ho
      simp only [ho] at h
      split
      · rename_i hw
        simp only [hw, if_true] at h
        rcases h with h | h
        · exact .inl (upon_mono ih hq h)
        · exact .inr ⟨h.1, LetsOut.mono hq h.2⟩
      · rename_i hw
        simp only [hw] at h
        exact ih _ _ h

/-! ### guards -/
def gval (ops : Array Oper) (s : Ch) (j : Nat) : AV := match (ops[j]?).bind (·.dst) with
  | some d => s.get d
  | none => .any
def gk (v : AV) (want : Bool) (A B : Prop) : Prop := match v with
  | .bool b => if b = want then A else B
  | .tuple [] => B
  | _ => False

theorem VR.bool_inv {sn : Snap} {ρ : Env} {b : Bool} {v : Value} (h : VR sn ρ (.bool b) v) : v = .bool b := by cases h; rfl

theorem undef_ok (sn : Snap) (ρ : Env) : VR sn ρ (.tuple []) undef := .tuple _ _ _ rfl (by simp)
theorem gval_undef {sn : Snap} {ρ : Env} {n : Nat} {s : Ch} {tmps : Array Value} (h : SR sn ρ n s tmps) {ops : Array Oper} {j : Nat} (hg : gval ops s j = .tuple []) : yielded ops tmps j = none := by
  unfold gval at hg
  unfold yielded
  cases hd : (ops[j]?).bind (·.dst) with
  | none => simp
  | some d =>
    simp only [hd] at hg
    have h1 := h.get d
    rw [hg] at h1
    by_cases hlt : d < tmps.size
    · have h3 : tmps.getD d undef = tmps[d] := by simp [hlt]
      rw [h3] at h1
      have h4 : tmps[d]? = some tmps[d] := Array.getElem?_eq_getElem hlt
      simp only [Option.bind_some, h4]
      generalize tmps[d] = v at h1
      cases h1
      rfl
    · simp [Array.getElem?_eq_none (Nat.le_of_not_lt hlt)]
theorem gval_ok {sn : Snap} {ρ : Env} {n : Nat} {s : Ch} {tmps : Array Value} (h : SR sn ρ n s tmps) {ops : Array Oper} {j : Nat} {b : Bool} (hg : gval ops s j = .bool b) : yielded ops tmps j = some b := by
  unfold gval at hg
  unfold yielded
  cases hd : (ops[j]?).bind (·.dst) with
  | none => simp [hd] at hg
  | some d =>
    simp only [hd] at hg
    have h1 := h.get d
    rw [hg] at h1
    have h2 := h1.bool_inv
    by_cases hlt : d < tmps.size
    · have : tmps[d]? = some (.bool b) := by
        rw [Array.getElem?_eq_getElem hlt]
        simp [hlt] at h2
        rw [h2]
      simp [this]
    · rw [Array.getD_eq_getD_getElem?, Array.getElem?_eq_none (Nat.le_of_not_lt hlt)] at h2
      simp [undef] at h2

/-! ### regions in the text's order -/
def cops (P : Program) (ops : Array Oper) : List Oper → XQ → Ch → Heap → Prop
  | [], Q, s, H => Q .normal s H
  | o :: rest, Q, s, H => match o.guard with
    | none => (aop P s H o.op).k P H (fun v H' => cops P ops rest Q (s.put? o.dst v) H') (fun v H' => Q (.pan v) s H')
    | some (j, want) => gk (gval ops s j) want ((aop P s H o.op).k P H (fun v H' => cops P ops rest Q (s.put? o.dst v) H') (fun v H' => Q (.pan v) s H')) (cops P ops rest Q (s.put? o.dst (.tuple [])) H)

theorem cops_sound {P : Program} {n : Nat} {D : Fx} {ops : Array Oper} {Q : XQ} (hd : ops.all (dstOk n) = true) : ∀ (m k : Nat) (s : Ch) (H : Heap), k + m = ops.size → cops P ops (ops.toList.drop k) Q s H → SOps P n D ops (List.range' k m) Q s H := by
  intro m
  induction m with
  | zero =>
    intro k s H hk h sn ρ w a hR hs hdf hB
    have : ops.toList.drop k = [] := by simp; omega
    rw [this] at h
    exact ⟨sn, ρ, H, s, .normal, trivial, hR, hs, hdf, .refl hB, h⟩
  | succ m ih =>
    intro k s H hk h sn ρ w a hR hs hdf hB
    have hlt : k < ops.size := by omega
    have hcons : ops.toList.drop k = ops[k] :: ops.toList.drop (k + 1) := by
      rw [List.drop_eq_getElem_cons (by simpa using hlt)]; simp
    rw [hcons] at h
    have hok : ops[k]? = some ops[k] := Array.getElem?_eq_getElem hlt
    have hdk : dstOk n ops[k] = true := by
      rw [Array.all_eq_true] at hd
      exact hd k hlt
    have hrest : ∀ s' H', cops P ops (ops.toList.drop (k + 1)) Q s' H' → SOps P n D ops (List.range' (k + 1) m) Q s' H' := fun s' H' h' => ih (k + 1) s' H' (by omega) h'
    have run : (aop P s H ops[k].op).k P H (fun v H' => cops P ops (ops.toList.drop (k + 1)) Q (s.put? ops[k].dst v) H') (fun v H' => Q (.pan v) s H') →
        Oper.wp P ops[k] a w (wpOps P ops (fun e a' w' => ∃ sn' ρ' H' s' x, AXR sn' ρ' x e ∧ Rel sn' ρ' H' w' ∧ SR sn' ρ' n s' a'.tmps ∧ a'.defers = D.D ∧ ExtB D.B sn ρ H w sn' ρ' H' w' ∧ Q x s' H') (List.range' (k + 1) m))
          (fun e a' w' => ∃ sn' ρ' H' s' x, AXR sn' ρ' x e ∧ Rel sn' ρ' H' w' ∧ SR sn' ρ' n s' a'.tmps ∧ a'.defers = D.D ∧ ExtB D.B sn ρ H w sn' ρ' H' w' ∧ Q x s' H') := by
      intro hk'
      refine upon_ok hR ?_ ?_ _ (aop_ok hR hs ops[k] (AR.enters_of_k hk')) hk'
      · intro sn' ρ' H' w' v cv q1 q2 hv hc
        have := hrest _ _ hc sn' ρ' w' (a.put ops[k].dst cv) q1 ((hs.mono q2.snap q2.env).put? hdk hv) (by rw [put_defers]; exact hdf) (Nat.le_trans hB q2.len)
        exact wpOps_mono (fun e a'' w'' ⟨sn2, ρ2, H2, s2, x, g1, g2, g3, g4, g5, g6⟩ => ⟨sn2, ρ2, H2, s2, x, g1, g2, g3, g4, (q2.b hB).trans g5, g6⟩) _ _ _ this
      · intro sn' ρ' H' w' v cv q1 q2 hv hc
        exact ⟨sn', ρ', H', s, .pan v, hv, q1, hs.mono q2.snap q2.env, hdf, q2.b hB, hc⟩
    rw [List.range'_succ]
    simp only [wpOps, hok]
    simp only [cops] at h
    split at h
    · rename_i hg
      have hw : Region.wanted ops[k] (yielded ops a.tmps) = true := by simp [Region.wanted, hg]
      rw [if_pos hw]
      exact .inl (run h)
    · rename_i j want hg
      unfold gk at h
      split at h
      · rename_i b hb
        have hy := gval_ok hs hb
        split at h
        · rename_i hbw
          have hw : Region.wanted ops[k] (yielded ops a.tmps) = true := by simp [Region.wanted, hg, hy, hbw]
          rw [if_pos hw]
          exact .inl (run h)
        · rename_i hbw
          have hw : ¬ Region.wanted ops[k] (yielded ops a.tmps) = true := by simp [Region.wanted, hg, hy, hbw]
          rw [if_neg hw]
          exact hrest _ _ h sn ρ w (a.put ops[k].dst undef) hR (hs.put? hdk (undef_ok _ _)) (by rw [put_defers]; exact hdf) hB
      · rename_i hb
        have hw : ¬ Region.wanted ops[k] (yielded ops a.tmps) = true := by simp [Region.wanted, hg, gval_undef hs hb]
        rw [if_neg hw]
        exact hrest _ _ h sn ρ w (a.put ops[k].dst undef) hR (hs.put? hdk (undef_ok _ _)) (by rw [put_defers]; exact hdf) hB
      · exact h.elim

/-! ### control -/
def thenX (K : KQ) (Q : XQ) : XQ := fun x => match x with
  | .normal => K
  | x => Q x
def blockX (id : Nat) (Q : XQ) : XQ := fun x => match x with
  | .exit j => if j = id then Q .normal else Q (.exit j)
  | x => Q x
/-- At most k rounds. -/
def rounds (body : XQ → Ch → Heap → Prop) (Q : XQ) : Nat → KQ
  | 0 => fun _ _ => False
  | k + 1 => body (thenX (rounds body Q k) Q)

def condK (v : AV) (A B : Prop) : Prop := match v with
  | .bool b => (b = true → A) ∧ (b = false → B)
  | _ => False

/-- Does a code begin with one of these regions? -/
def memN (i : Nat) : List Nat → Bool
  | [] => false
  | c :: cs => if i = c then true else memN i cs
def cutR (cs : List Nat) : Code → Bool
  | .seq a _ => cutR cs a
  | .block _ a => cutR cs a
  | .loop a => cutR cs a
  | .region id _ _ => memN id cs
  | _ => false
def cutIn (y : Code) : List Nat → Bool
  | [] => false
  | c :: cs => cutR (c :: cs) y
def cwp (P : Program) (n : Nat) (D : Fx) : Code → XQ → Ch → Heap → Prop
  | .skip, Q => Q .normal
  | .label _, Q => Q .normal
  | .ret, Q => Q .ret
  | .exit id, Q => Q (.exit id)
  | .region id ops false, Q => fun s H => cops P ops ops.toList Q s H
  | .region id ops true, Q => fun s H => SWp P n D (.region id ops true) Q s H
  | .seq a b, Q => fun s H => if cutIn b D.cuts = true then ∃ K : KQ, cwp P n D a (thenX K Q) s H ∧ ∀ s' H', K s' H' → SWp P n D b Q s' H' else cwp P n D a (thenX (cwp P n D b Q) Q) s H
  | .cond c x y, Q => fun s H => condK (cev s c) (cwp P n D x Q s H) (cwp P n D y Q s H)
  | .block id c, Q => cwp P n D c (blockX id Q)
  | .loop c, Q => fun s H => ∃ k, rounds (SWp P n D c) Q k s H
  | _, _ => fun _ _ => False

/-- All slots that the code writes are slots. -/
def codeOk (n : Nat) : Code → Bool
  | .region _ ops _ => ops.all (dstOk n) && ops.all noDef
  | .seq a b => codeOk n a && codeOk n b
  | .cond _ a b => codeOk n a && codeOk n b
  | .block _ c => codeOk n c
  | .loop c => codeOk n c
  | _ => true

/-! ### operations in rounds -/
theorem notOut {n : Nat} {D : Fx} {Q : XQ} {sn : Snap} {ρ : Env} {H : Heap} {w : World} : ¬ LetsOut (fun (e : Exit) (a' : Act) (w' : World) => ∃ sn' ρ' H' s' x, AXR sn' ρ' x e ∧ Rel sn' ρ' H' w' ∧ SR sn' ρ' n s' a'.tmps ∧ a'.defers = D.D ∧ ExtB D.B sn ρ H w sn' ρ' H' w' ∧ Q x s' H') := by
  rintro ⟨a, w, sn', ρ', H', s', x, h, _⟩
  cases x <;> exact h
theorem FR_room {ro : Option Nat} : (FR ro).depth.isSome = true → 1 ≤ 0 := fun h => by simp [FR, Fence.wide] at h
theorem uponIn_of {P : Program} {ro : Option Nat} {o : Oper} {a : Act} {K : Act → World → Prop} {Q : Exit → Act → World → Prop} (_ : ¬ LetsOut Q) {r : Result Next} (h : o.upon P a K Q r) : o.uponIn (FR ro) 0 P a K Q r := by
  cases r with
  | ok x w' =>
    cases x with
    | value v => exact h
    | skip => exact h
    | defer d => exact h
    | enter f args => exact ⟨FR_room, callsIn_wide.2 h⟩
    | row r args =>
      refine ⟨FR_room, fun c cs _ => ?_⟩
      obtain ⟨v, w2, h1, h2⟩ := h c cs
      exact ⟨v, w2, h1, stepsIn_wide.2 h2⟩
    | _ => exact h.elim
  | halt x w' => cases x <;> first | exact h | exact h.elim
theorem opIn_of {P : Program} {ro : Option Nat} {o : Oper} {a : Act} {w : World} {K : Act → World → Prop} {Q : Exit → Act → World → Prop} (hQ : ¬ LetsOut Q) (ho : noDef o = true) (h : o.wp P a w K Q) : o.wpIn (FR ro) 0 P a w K Q := by
  refine ⟨fun _ _ => trivial, ?_⟩
  rw [Oper.semAt_eq _ _ _ (fun c hc => by rw [noDef, hc] at ho; cases ho)]
  exact uponIn_of hQ h
theorem wpOps_in {P : Program} {ro : Option Nat} {ops : Array Oper} {Q : Exit → Act → World → Prop} (hd : ops.all noDef = true) (hQ : ¬ LetsOut Q) : ∀ (l : List Nat) (a : Act) (w : World), wpOps P ops Q l a w → wpOpsIn (FR ro) 0 P ops Q l a w
  | [], a, w, h => h
  | i :: l, a, w, h => by
    have ih := wpOps_in (P := P) (ro := ro) hd hQ l
    simp only [wpOps, wpOpsIn] at h ⊢
    split
    · rename_i h0; simp only [h0] at h; exact ih _ _ h
    · rename_i o h0
      simp only [h0] at h
      have ho : noDef o = true := by
        rw [Array.all_eq_true] at hd
        obtain ⟨h1, h2⟩ := Array.getElem?_eq_some_iff.1 h0
        exact h2 ▸ hd i h1
      split
      · rename_i hw
        rw [if_pos hw] at h
        rcases h with h | h
        · exact Oper.wpIn_mono ih (opIn_of hQ ho h)
        · exact absurd h.2 hQ
      · rename_i hw
        rw [if_neg hw] at h
        exact ⟨fun _ _ => trivial, ih _ _ h⟩
theorem wpAny_in {P : Program} {ro : Option Nat} {ops : Array Oper} {md : Region.Mode} {Q : Exit → Act → World → Prop} (hd : ops.all noDef = true) (hQ : ¬ LetsOut Q) : ∀ (fuel : Nat) (listed : Array Bool) (a : Act) (w : World), wpAny P md ops Q fuel listed a w → wpAnyIn (FR ro) 0 P md ops Q fuel listed a w
  | 0, listed, a, w, h => h
  | fuel + 1, listed, a, w, h => by
    have ih := fun l => wpAny_in (P := P) (ro := ro) (md := md) hd hQ fuel l
    refine ⟨h.1, fun i hi => ?_⟩
    have h := h.2 i hi
    unfold wpOp at h
    unfold wpOpIn
    split
    · rename_i h0; simp only [h0] at h; exact ih _ _ _ h
    · rename_i o h0
      simp only [h0] at h
      have ho : noDef o = true := by
        rw [Array.all_eq_true] at hd
        obtain ⟨h1, h2⟩ := Array.getElem?_eq_some_iff.1 h0
        exact h2 ▸ hd i h1
      split
      · rename_i hw
        rw [if_pos hw] at h
        rcases h with h | h
        · exact Oper.wpIn_mono (ih _) (opIn_of hQ ho h)
        · exact absurd h.2 hQ
      · rename_i hw
        rw [if_neg hw] at h
        exact ⟨fun _ _ => trivial, ih _ _ _ h⟩
theorem SWp.mono {P : Program} {n : Nat} {D : Fx} {c : Code} {Q Q' : XQ} {s : Ch} {H : Heap} (h : SWp P n D c Q s H) (hq : ∀ x s H, Q x s H → Q' x s H) : SWp P n D c Q' s H :=
  fun ro sn ρ w a hR hs hd hB => wpIn_mono (h ro sn ρ w a hR hs hd hB) fun e a' w' ⟨sn', ρ', H', s', x, h1, h2, h3, h4, h5, h6⟩ => ⟨sn', ρ', H', s', x, h1, h2, h3, h4, h5, hq _ _ _ h6⟩

theorem AXR.normal {sn : Snap} {ρ : Env} {x : AX} (h : AXR sn ρ x .normal) : x = .normal := by
  cases x <;> simp [AXR] at h
  rfl

theorem SWp.seq {P : Program} {n : Nat} {D : Fx} {x y : Code} {Q : XQ} {s : Ch} {H : Heap} {K : KQ} (h : SWp P n D x (thenX K Q) s H) (hk : ∀ s H, K s H → SWp P n D y Q s H) : SWp P n D (.seq x y) Q s H := by
  intro ro sn ρ w a hR hs hd hB
  refine wpIn_seq (wpIn_mono (h ro sn ρ w a hR hs hd hB) ?_)
  rintro e a' w' ⟨sn', ρ', H', s', ax, h1, h2, h3, h4, h5, h6⟩
  cases e with
  | normal =>
    have := h1.normal
    subst this
    exact wpIn_mono (hk _ _ h6 ro sn' ρ' w' a' h2 h3 h4 h5.len) fun e a'' w'' ⟨sn2, ρ2, H2, s2, x2, g1, g2, g3, g4, g5, g6⟩ => ⟨sn2, ρ2, H2, s2, x2, g1, g2, g3, g4, h5.trans g5, g6⟩
  | _ => exact ⟨sn', ρ', H', s', ax, h1, h2, h3, h4, h5, by cases ax <;> first | exact h6 | simp [AXR] at h1⟩

theorem SWp.block {P : Program} {n : Nat} {D : Fx} {id : Nat} {c : Code} {Q : XQ} {s : Ch} {H : Heap} (h : SWp P n D c (blockX id Q) s H) : SWp P n D (.block id c) Q s H := by
  intro ro sn ρ w a hR hs hd hB
  refine wpIn_block (wpIn_mono (h ro sn ρ w a hR hs hd hB) ?_)
  rintro e a' w' ⟨sn', ρ', H', s', ax, h1, h2, h3, h4, h5, h6⟩
  cases e with
  | exit j =>
    cases ax <;> simp [AXR] at h1
    subst h1
    simp only [Exit.inBlock]
    simp only [blockX] at h6
    split
    · rename_i e
      rw [if_pos e] at h6
      exact ⟨sn', ρ', H', s', .normal, trivial, h2, h3, h4, h5, h6⟩
    · rename_i e
      rw [if_neg e] at h6
      exact ⟨sn', ρ', H', s', .exit _, rfl, h2, h3, h4, h5, h6⟩
  | _ => exact ⟨sn', ρ', H', s', ax, h1, h2, h3, h4, h5, by cases ax <;> first | exact h6 | simp [AXR] at h1⟩

theorem SWp.loop {P : Program} {n : Nat} {D : Fx} {c : Code} {Q : XQ} {k : Nat} {s : Ch} {H : Heap} (h : rounds (SWp P n D c) Q k s H) : SWp P n D (.loop c) Q s H := by
  intro ro sn ρ w a hR hs hd hB
  refine wpIn_loop_rounds k ?_
  have key : ∀ (k : Nat) (s1 : Ch) (H1 : Heap) (sn1 : Snap) (ρ1 : Env) (w1 : World) (a1 : Act), rounds (SWp P n D c) Q k s1 H1 → Rel sn1 ρ1 H1 w1 → SR sn1 ρ1 n s1 a1.tmps → a1.defers = D.D → ExtB D.B sn ρ H w sn1 ρ1 H1 w1 →
      Code.roundsIn (FR ro) 0 P c (fun e a' w' => ∃ sn' ρ' H' s' x, AXR sn' ρ' x e ∧ Rel sn' ρ' H' w' ∧ SR sn' ρ' n s' a'.tmps ∧ a'.defers = D.D ∧ ExtB D.B sn ρ H w sn' ρ' H' w' ∧ Q x s' H') k a1 w1 := by
    intro k
    induction k with
    | zero => intro _ _ _ _ _ _ h; exact h.elim
    | succ k ih =>
      intro s1 H1 sn1 ρ1 w1 a1 h hR1 hs1 hd1 hE
      rw [roundsIn_succ]
      refine wpIn_mono (h ro sn1 ρ1 w1 a1 hR1 hs1 hd1 hE.len) ?_
      rintro e a' w' ⟨sn', ρ', H', s', ax, h1, h2, h3, h4, h5, h6⟩
      cases e with
      | normal =>
        have := h1.normal
        subst this
        exact ih s' H' sn' ρ' w' a' h6 h2 h3 h4 (hE.trans h5)
      | _ => exact ⟨sn', ρ', H', s', ax, h1, h2, h3, h4, hE.trans h5, by cases ax <;> first | exact h6 | simp [AXR] at h1⟩
  exact key k s H sn ρ w a h hR hs hd (.refl hB)

theorem cwp_sound {P : Program} {n : Nat} {D : Fx} : ∀ (c : Code), codeOk n c = true → ∀ (Q : XQ) (s : Ch) (H : Heap), cwp P n D c Q s H → SWp P n D c Q s H := by
  intro c
  induction c with
  | skip => intro _ Q s H h ro sn ρ w a hR hs hd hB; exact wpIn_skip ⟨sn, ρ, H, s, .normal, trivial, hR, hs, hd, .refl hB, h⟩
  | label l => intro _ Q s H h ro sn ρ w a hR hs hd hB; exact wpIn_label ⟨sn, ρ, H, s, .normal, trivial, hR, hs, hd, .refl hB, h⟩
  | ret => intro _ Q s H h ro sn ρ w a hR hs hd hB; exact wpIn_ret ⟨sn, ρ, H, s, .ret, trivial, hR, hs, hd, .refl hB, h⟩
  | exit id => intro _ Q s H h ro sn ρ w a hR hs hd hB; exact wpIn_exit ⟨sn, ρ, H, s, .exit id, rfl, hR, hs, hd, .refl hB, h⟩
  | region id ops draw =>
    intro hok Q s H h
    cases draw with
    | true => exact h
    | false =>
      intro ro sn ρ w a hR hs hd hB
      simp only [codeOk, Bool.and_eq_true] at hok
      have := cops_sound (D := D) hok.1 ops.size 0 s H (by omega) (by simpa [cwp] using h) sn ρ w a hR hs hd hB
      exact wpIn_region (by rw [List.range_eq_range']; exact wpOps_in hok.2 notOut _ _ _ this)
  | seq x y ihx ihy =>
    intro hok Q s H h
    simp only [codeOk, Bool.and_eq_true] at hok
    simp only [cwp] at h
    split at h
    · obtain ⟨K, h1, h2⟩ := h
      exact SWp.seq (ihx hok.1 _ _ _ h1) h2
    · exact SWp.seq (ihx hok.1 _ _ _ h) (fun s H hk => ihy hok.2 _ _ _ hk)
  | cond c x y ihx ihy =>
    intro hok Q s H h ro sn ρ w a hR hs hd hB
    simp only [codeOk, Bool.and_eq_true] at hok
    simp only [cwp, condK] at h
    split at h
    · rename_i b hb
      have := cev_ok hR.gl hs c
      rw [hb] at this
      refine wpIn_cond_split this.bool_inv (fun e => ?_) (fun e => ?_)
      · exact ihx hok.1 _ _ _ (h.1 e) ro sn ρ w a hR hs hd hB
      · exact ihy hok.2 _ _ _ (h.2 e) ro sn ρ w a hR hs hd hB
    · exact h.elim
  | block id c ih => intro hok Q s H h; exact SWp.block (ih hok _ _ _ h)
  | loop c ih =>
    intro hok Q s H h
    obtain ⟨k, hk⟩ := h
    exact SWp.loop hk
  | _ => intro _ Q s H h; exact h.elim

/-- In an activation. -/
theorem SWp.plain {P : Program} {n : Nat} {D : Fx} {c : Code} {Q : XQ} {s : Ch} {H : Heap} (h : SWp P n D c Q s H) (sn : Snap) (ρ : Env) (w : World) (a : Act) (hR : Rel sn ρ H w) (hs : SR sn ρ n s a.tmps) (hd : a.defers = D.D) (hB : D.B ≤ H.length) :
    c.wp P (fun e a' w' => ∃ sn' ρ' H' s' x, AXR sn' ρ' x e ∧ Rel sn' ρ' H' w' ∧ SR sn' ρ' n s' a'.tmps ∧ a'.defers = D.D ∧ ExtB D.B sn ρ H w sn' ρ' H' w' ∧ Q x s' H') a w := wpIn_wide.1 (h none sn ρ w a hR hs hd hB)

/-! ### functions -/
def aResult (P : Program) (s : Ch) (H : Heap) : ResultVar → Option AV
  | .tmp t => some (s.get t)
  | .cell a t => match aLoad P t (s.get a) H with
    | .val v => some v
    | _ => none
def aResults (P : Program) (s : Ch) (H : Heap) : List ResultVar → Option (List AV)
  | [] => some []
  | r :: rs => match aResult P s H r, aResults P s H rs with
    | some v, some vs => some (v :: vs)
    | _, _ => none
def packRes (vs : Option (List AV)) (K : AV → Prop) : Prop := match vs with
  | some [v] => K v
  | some vs => K (.tuple vs)
  | none => False
/-- What is asked at a function's end. -/
def bodyX (P : Program) (rs : List ResultVar) (Q : CQ) : XQ := fun x s H => match x with
  | .normal | .ret => packRes (aResults P s H rs) (fun v => Q (.ret v) H)
  | .pan v => Q (.pan v) H
  | .exit _ => False

def rvSem (tmps : Array Value) : ResultVar → Sem Value
  | .tmp t => pure (tmps.getD t undef)
  | .cell a t => do loadVar t (← asAddr (tmps.getD a undef))
theorem results_eq (fn : Func) (tmps : Array Value) : results fn tmps = (do
    let vs ← fn.results.mapM (rvSem tmps)
    pure (if h : vs.size = 1 then vs[0] else .tuple vs)) := by
  unfold results
  congr 1

theorem aResults_ok {P : Program} {sn : Snap} {ρ : Env} {n : Nat} {s : Ch} {tmps : Array Value} {H : Heap} {w : World} (hR : Rel sn ρ H w) (hs : SR sn ρ n s tmps) : ∀ (rs : List ResultVar) (vs : List AV), aResults P s H rs = some vs →
    ∃ cvs, (rs.mapM (rvSem tmps)).run P w = .ok cvs w ∧ VRs sn ρ vs cvs := by
  intro rs
  induction rs with
  | nil =>
    intro vs h
    simp only [aResults, Option.some.injEq] at h
    subst h
    exact ⟨[], rfl, rfl, fun k x y hx => by simp at hx⟩
  | cons r rs ih =>
    intro vs h
    simp only [aResults] at h
    split at h
    · rename_i v vs' h1 h2
      injection h with h
      subst h
      obtain ⟨cvs, g1, g2⟩ := ih vs' h2
      have key : ∃ cv, (rvSem tmps r).run P w = .ok cv w ∧ VR sn ρ v cv := by
        cases r with
        | tmp t =>
          simp only [aResult, Option.some.injEq] at h1
          subst h1
          exact ⟨_, rfl, hs.get t⟩
        | cell a t =>
          simp only [aResult] at h1
          split at h1
          · rename_i u hu
            injection h1 with h1
            subst h1
            have := aLoad_ok (P := P) hR (t := t) (hs.get a)
            rw [hu] at this
            obtain ⟨cv, e1, e2⟩ := this
            refine ⟨cv, ?_, e2⟩
            cases hc : tmps.getD a undef with
            | pointer ad =>
              rw [hc] at e1
              cases ad with
              | none => simp [asNext, Instr.loadAt, Instr.sureAddr] at e1
              | some ad =>
                simp only [asNext, Instr.loadAt, Instr.sureAddr, pure_bind] at e1
                simp only [rvSem, hc, asAddr, pure_bind]
                simp only [Sem.run_bind] at e1
                cases hl : (loadVar t ad).run P w with
                | ok x w' => rw [hl] at e1; simp at e1; obtain ⟨rfl, rfl⟩ := e1; rfl
                | halt x w' => rw [hl] at e1; simp at e1
            | _ => rw [hc] at e1; simp [asNext, Instr.loadAt, Instr.sureAddr] at e1
          · cases h1
      obtain ⟨cv, e1, e2⟩ := key
      refine ⟨cv :: cvs, by simp only [List.mapM_cons, Sem.run_bind, e1, Result.andThen_ok, g1, Sem.run_pure], by simp [g2.1], fun k x y hx hy => ?_⟩
      cases k with
      | zero => simp at hx hy; subst hx hy; exact e2
      | succ k => exact g2.2 k x y (by simpa using hx) (by simpa using hy)
    · cases h

theorem packRes_ok {P : Program} {sn : Snap} {ρ : Env} {n : Nat} {s : Ch} {tmps : Array Value} {H : Heap} {w : World} (hR : Rel sn ρ H w) (hs : SR sn ρ n s tmps) (fn : Func) {K : AV → Prop} (h : packRes (aResults P s H fn.results.toList) K) :
    ∃ v cv, (results fn tmps).run P w = .ok cv w ∧ VR sn ρ v cv ∧ K v := by
  cases hvs : aResults P s H fn.results.toList with
  | none => rw [hvs] at h; exact h.elim
  | some vs =>
    rw [hvs] at h
    obtain ⟨cvs, g1, g2⟩ := aResults_ok hR hs _ _ hvs
    have hm : (fn.results.mapM (rvSem tmps)).run P w = .ok cvs.toArray w := by
      rw [Array.mapM_eq_mapM_toList]
      simp only [Sem.run_map, g1, Result.andThen_ok]
    match vs, cvs, g2, h with
    | [v], [cv], g2, h => exact ⟨v, cv, by rw [results_eq]; simp [hm], g2.2 0 _ _ rfl rfl, h⟩
    | [], [], g2, h => exact ⟨.tuple [], .tuple #[], by rw [results_eq]; simp [hm], .tuple _ _ _ rfl (by simp), h⟩
    | v1 :: v2 :: vs, c1 :: c2 :: cvs, g2, h =>
      refine ⟨.tuple (v1 :: v2 :: vs), .tuple (c1 :: c2 :: cvs).toArray, ?_, .tuple _ _ _ (by simpa using g2.1) (fun k x y hx hy => g2.2 k x y hx (by simpa using hy)), h⟩
      rw [results_eq]
      simp only [Sem.run_bind, hm, Result.andThen_ok, Sem.run_pure]
      rw [dif_neg (by simp)]
    | [], _ :: _, g2, h => exact absurd g2.1 (by simp)
    | [_], [], g2, h => exact absurd g2.1 (by simp)
    | [_], _ :: _ :: _, g2, h => exact absurd g2.1 (by simp)
    | _ :: _ :: _, [], g2, h => exact absurd g2.1 (by simp)
    | _ :: _ :: _, [_], g2, h => exact absurd g2.1 (by simp)

/-- The first slots are the arguments. -/
def argsCh : List AV → Nat → Ch → Ch
  | [], _, s => s
  | x :: xs, k, s => argsCh xs (k + 1) (s.put k x)

theorem argsCh_get : ∀ (xs : List AV) (k : Nat) (s : Ch) (t : Nat), (argsCh xs k s).get t = if k ≤ t ∧ t < k + xs.length then (xs[t - k]?).getD .any else s.get t := by
  intro xs
  induction xs with
  | nil => intro k s t; simp only [argsCh, List.length_nil]; rw [if_neg (by omega)]
  | cons x xs ih =>
    intro k s t
    simp only [argsCh, ih, List.length_cons]
    by_cases e : t = k
    · subst e
      rw [if_neg (by omega), if_pos (by omega)]
      simp [Ch.get]
    · by_cases e2 : k ≤ t ∧ t < k + (xs.length + 1)
      · rw [if_pos (by omega), if_pos e2]
        obtain ⟨m, hm⟩ : ∃ m, t - k = m + 1 := ⟨t - k - 1, by omega⟩
        rw [hm, List.getElem?_cons_succ]
        congr 2
        omega
      · rw [if_neg (by omega), if_neg e2]
        simp [Ch.get, e]

theorem ACalls.intro {P : Program} {cs : List Nat} {f : FuncId} {fn : Func} {c : Code} {rs : List ResultVar} {n : Nat} {args : List AV} {H : Heap} {Q : CQ} (hf : P.funcs[f]? = some fn) (hb : fn.body = some c) (hrs : fn.results = rs.toArray) (hnt : Nat.beq fn.ntmps n = true) (hok : codeOk n c = true) (hn : Nat.ble args.length n = true)
    (h : cwp P n ⟨[], H.length, cs⟩ c (bodyX P rs Q) (argsCh args 0 .nil) H) : ACalls P f args H Q := by
  have hnt := Nat.eq_of_beq_eq_true hnt
  subst hnt
  have hrs : fn.results.toList = rs := by rw [hrs]
  subst hrs
  have hn := Nat.le_of_ble_eq_true hn
  intro sn ρ w vs hR hv
  refine calls_of_wp hf hb ?_
  have hlen : vs.size = args.length := by have := hv.1; simpa using this
  have hs : SR sn ρ fn.ntmps (argsCh args 0 .nil) (vs ++ Array.replicate (fn.ntmps - vs.size) undef) := by
    refine ⟨by simp; omega, fun t => ?_⟩
    rw [argsCh_get]
    split
    · rename_i hlt
      have hlt' : t < vs.size := by omega
      have e1 : (vs ++ Array.replicate (fn.ntmps - vs.size) undef).getD t undef = vs[t] := by
        rw [Array.getD_eq_getD_getElem?, Array.getElem?_append, if_pos hlt', Array.getElem?_eq_getElem hlt']; rfl
      rw [e1]
      have hlt2 : t < args.length := by omega
      simp only [Nat.sub_zero, List.getElem?_eq_getElem hlt2, Option.getD_some]
      exact hv.2 t _ _ (List.getElem?_eq_getElem hlt2) (by simp [hlt'])
    · exact .any _ _
  refine wp_mono ((cwp_sound c hok _ _ _ h).plain sn ρ w _ hR hs rfl (Nat.le_refl _)) ?_
  rintro e a' w' ⟨sn', ρ', H', s', x, h1, h2, h3, h4, h5', h6⟩
  have h5 : Ext sn ρ H w sn' ρ' H' w' := ⟨fun r p hp => by
    have hr : r < H.length := by
      rcases Nat.lt_or_ge r H.length with h | h
      · exact h
      · rw [hR.top r h] at hp; cases hp
    rw [h5'.env r hr]; exact hp, h5'.env, h5'.len, h5'.snap, h5'.below, h5'.os, h5'.tape, h5'.output, h5'.frame, h5'.newsnap, h5'.newown⟩
  cases x with
  | normal =>
    cases e <;> simp [AXR] at h1
    obtain ⟨v, cv, g1, g2, g3⟩ := packRes_ok h2 h3 fn h6
    exact ⟨h4, cv, g1, sn', ρ', H', .ret v, g2, h2, h5, g3⟩
  | ret =>
    cases e <;> simp [AXR] at h1
    obtain ⟨v, cv, g1, g2, g3⟩ := packRes_ok h2 h3 fn h6
    exact ⟨h4, cv, g1, sn', ρ', H', .ret v, g2, h2, h5, g3⟩
  | exit id => exact h6.elim
  | pan v =>
    unfold AXR at h1
    split at h1 <;> try (first | exact h1.elim | (rename_i h0 _; cases h0; done) | (rename_i h0; cases h0; done))
    rename_i y cv hy
    cases hy
    exact ⟨h4, sn', ρ', H', .pan _, h1, h2, h5, h6⟩
end Go.AM
