/- Sched: a state is valid if and only if it is in order. No condition. -/
import Derived.Test.YtljepmbikbdicaaSB
set_option maxRecDepth 100000
set_option linter.unusedVariables false
set_option linter.unusedSimpArgs false
namespace Go.Proofs.Ytljepmbikbdicaa
open Go.AM
def cnt (k : Int) : List T → Int
  | [] => 0
  | t :: l => (if t.st = k then 1 else 0) + cnt k l
theorem scanT_eq (s : S) : ∀ (l : List T) (a b : Int), s.scanT l a b = if ∀ t ∈ l, s.badT t = false then some (a + cnt 1 l, b + cnt 2 l) else none
  | [], a, b => by simp [S.scanT, cnt]
  | t :: l, a, b => by
    rw [S.scanT]
    by_cases h : s.badT t = true
    · rw [if_pos h, if_neg (fun h' => by have := h' t (by simp); rw [h] at this; cases this)]
    · rw [if_neg h]
      have h' : s.badT t = false := by simpa using h
      have e : (∀ x ∈ t :: l, s.badT x = false) ↔ ∀ x ∈ l, s.badT x = false := by simp [h']
      by_cases h1 : t.st = 1
      · rw [if_pos h1, scanT_eq s l]
        simp only [e, cnt, h1]
        split <;> simp <;> omega
      · rw [if_neg h1]
        by_cases h2 : t.st = 2
        · rw [if_pos h2, scanT_eq s l]
          simp only [e, cnt, h2]
          split <;> simp <;> omega
        · rw [if_neg h2, scanT_eq s l]
          simp only [e, cnt, h1, h2]
          split <;> simp
def S.chainP (s : S) : Option Int → List Int → Prop
  | _, [] => True
  | p, x :: l => s.up p x = false ∧ s.chainP (some x) l
theorem scanR_iff (s : S) (c : Int) : ∀ (l : List Int) (p : Option Int) (seen r : List Int), s.scanR c p l seen = some r ↔ r = seen ++ l ∧ (∀ x ∈ l, s.is x c 1 = true) ∧ l.Nodup ∧ (∀ x ∈ l, x ∉ seen) ∧ s.chainP p l
  | [], p, seen, r => by
    simp only [S.scanR, Option.some.injEq, S.chainP, List.append_nil]
    constructor
    · rintro rfl; exact ⟨rfl, by simp, by simp, by simp, trivial⟩
    · rintro ⟨rfl, _⟩; rfl
  | x :: l, p, seen, r => by
    rw [S.scanR]
    by_cases h : s.is x c 1 = false ∨ x ∈ seen ∨ s.up p x = true
    · rw [if_pos h]
      constructor
      · intro h'; cases h'
      · rintro ⟨_, h1, _, h2, h3⟩
        rcases h with h | h | h
        · have := h1 x (by simp); rw [h] at this; cases this
        · exact absurd h (h2 x (by simp))
        · have := h3.1; rw [h] at this; cases this
    · rw [if_neg h, scanR_iff s c l]
      have ha : s.is x c 1 = true := by cases e : s.is x c 1 <;> simp_all
      have hb : x ∉ seen := fun e => h (.inr (.inl e))
      have hc : s.up p x = false := by cases e : s.up p x <;> simp_all
      constructor
      · rintro ⟨rfl, h1, h2, h3, h4⟩
        refine ⟨by simp, ?_, ?_, ?_, hc, h4⟩
        · intro y hy
          rcases List.mem_cons.1 hy with rfl | hy
          · exact ha
          · exact h1 y hy
        · rw [List.nodup_cons]
          exact ⟨fun hx => h3 x hx (by simp), h2⟩
        · intro y hy
          rcases List.mem_cons.1 hy with rfl | hy
          · exact hb
          · exact fun hs => h3 y hy (by simp [hs])
      · rintro ⟨rfl, h1, h2, h3, h4⟩
        rw [List.nodup_cons] at h2
        refine ⟨by simp, fun y hy => h1 y (by simp [hy]), h2.2, fun y hy hs => ?_, h4.2⟩
        rcases List.mem_append.1 hs with hs | hs
        · exact h3 y (by simp [hy]) hs
        · simp at hs; subst hs; exact h2.1 hy
theorem chain_pair (s : S) : ∀ (l : List Int) (p : Option Int), s.chainP p l ↔ (∀ y, p = some y → ∀ x ∈ l, s.pri x ≤ s.pri y) ∧ l.Pairwise (fun x y => s.pri y ≤ s.pri x)
  | [], p => by simp [S.chainP]
  | x :: l, p => by
    simp only [S.chainP, chain_pair s l, List.pairwise_cons]
    constructor
    · rintro ⟨h1, h2, h3⟩
      refine ⟨fun y hy z hz => ?_, fun z hz => h2 x rfl z hz, h3⟩
      subst hy
      have h1' : ¬ s.pri y < s.pri x := by simpa [S.up] using h1
      rcases List.mem_cons.1 hz with rfl | hz
      · omega
      · have := h2 x rfl z hz; omega
    · rintro ⟨h1, h2, h3⟩
      refine ⟨?_, fun y hy z hz => by cases hy; exact h2 z hz, h3⟩
      cases p with
      | none => rfl
      | some y => have := h1 y rfl x (by simp); simp [S.up]; omega
def tot : List Q → Int
  | [] => 0
  | q :: l => q.ready.length + tot l
def runs : List Q → Int
  | [] => 0
  | q :: l => (if q.run = -1 then 0 else 1) + runs l
/-- One queue is in order. -/
def S.okQ (s : S) (c : Int) (q : Q) : Prop := s.badQ c q = false ∧ (∀ x ∈ q.ready, s.is x c 1 = true) ∧ q.ready.Nodup ∧ q.ready.Pairwise (fun x y => s.pri y ≤ s.pri x)
theorem is_cpu {s : S} {x c d a b : Int} (h : s.is x c a = true) (h' : s.is x d b = true) : c = d ∧ a = b := by
  obtain ⟨i, t, rfl, ht, h1, h2⟩ := (show ∃ (i : Nat) (t : T), x = i ∧ s.thr[i]? = some t ∧ t.cpu = c ∧ t.st = a by
    have h0 := S.is_lt h
    unfold S.is at h
    split at h
    · rename_i t ht
      simp at h
      exact ⟨x.toNat, t, by omega, ht, h.1.2, h.2⟩
    · cases h)
  unfold S.is at h'
  rw [Int.toNat_natCast, ht] at h'
  simp at h'
  omega
theorem scanQ_iff (s : S) : ∀ (l : List Q) (c : Int) (seen : List Int) (a b : Int), s.scanQ c l seen a b = true ↔ (∀ (k : Nat) q, l[k]? = some q → s.okQ (c + k) q ∧ ∀ x ∈ q.ready, x ∉ seen) ∧ a = tot l ∧ b = runs l
  | [], c, seen, a, b => by simp [S.scanQ, tot, runs]
  | q :: l, c, seen, a, b => by
    rw [S.scanQ]
    constructor
    · intro h
      split at h
      · cases h
      rename_i hb
      split at h
      · cases h
      rename_i seen' hs
      obtain ⟨rfl, h1, h2, h3, h4⟩ := (scanR_iff s c _ _ _ _).1 hs
      obtain ⟨g1, g2, g3⟩ := (scanQ_iff s l _ _ _ _).1 h
      have h5 := ((chain_pair s q.ready none).1 h4).2
      refine ⟨fun k q' hk => ?_, by simp only [tot]; omega, by simp only [runs]; split at g3 <;> simp_all <;> omega⟩
      cases k with
      | zero =>
        simp at hk
        subst hk
        exact ⟨by simpa using ⟨by simpa using hb, h1, h2, h5⟩, h3⟩
      | succ k =>
        have := g1 k q' (by simpa using hk)
        refine ⟨by rw [show c + ((k + 1 : Nat) : Int) = c + 1 + k by omega]; exact this.1, fun x hx hm => this.2 x hx (by simp [hm])⟩
    · rintro ⟨h1, h2, h3⟩
      have h0 := h1 0 q rfl
      simp only [Int.natCast_zero, Int.add_zero] at h0
      obtain ⟨⟨hb, g1, g2, g3⟩, g4⟩ := h0
      rw [if_neg (by simp [hb])]
      have hs : s.scanR c none q.ready seen = some (seen ++ q.ready) := (scanR_iff s c _ _ _ _).2 ⟨rfl, g1, g2, g4, (chain_pair s q.ready none).2 ⟨(fun y hy => by cases hy), g3⟩⟩
      rw [hs]
      refine (scanQ_iff s l _ _ _ _).2 ⟨fun k q' hk => ?_, by simp only [tot] at h2; omega, by simp only [runs] at h3; split at h3 <;> simp_all; omega⟩
      have := h1 (k + 1) q' (by simpa using hk)
      rw [show c + ((k + 1 : Nat) : Int) = c + 1 + k by omega] at this
      refine ⟨this.1, fun x hx hm => ?_⟩
      rcases List.mem_append.1 hm with hm | hm
      · exact this.2 x hx hm
      · have := (is_cpu (g1 x hm) (this.1.2.1 x hx)).1
        omega
/-! ### counting -/
theorem sub_len : ∀ (l m : List Int), l.Nodup → (∀ x ∈ l, x ∈ m) → l.length ≤ m.length
  | [], m, _, _ => Nat.zero_le _
  | x :: l, m, hn, h => by
    rw [List.nodup_cons] at hn
    have h1 := sub_len l (m.erase x) hn.2 fun y hy => by
      have : y ≠ x := fun e => hn.1 (e ▸ hy)
      exact (List.mem_erase_of_ne this).2 (h y (by simp [hy]))
    have h2 := List.length_erase_of_mem (h x (by simp))
    have h3 : 0 < m.length := List.length_pos_of_mem (h x (by simp))
    simp only [List.length_cons]
    omega
theorem sub_all {l m : List Int} (hl : l.Nodup) (h : ∀ x ∈ l, x ∈ m) (he : m.length ≤ l.length) : ∀ y ∈ m, y ∈ l := by
  intro y hy
  by_cases hm : y ∈ l
  · exact hm
  · have h1 := sub_len (y :: l) m (List.nodup_cons.2 ⟨hm, hl⟩) (fun x hx => by
      rcases List.mem_cons.1 hx with rfl | hx
      · exact hy
      · exact h x hx)
    simp at h1
    omega
/-- The threads in a state. -/
def inSt (k : Int) : List T → Int → List Int
  | [], _ => []
  | t :: l, i => if t.st = k then i :: inSt k l (i + 1) else inSt k l (i + 1)
theorem inSt_len (k : Int) : ∀ (l : List T) (i : Int), ((inSt k l i).length : Int) = cnt k l
  | [], i => by simp [inSt, cnt]
  | t :: l, i => by
    have := inSt_len k l (i + 1)
    simp only [inSt, cnt]
    split
    · simp only [List.length_cons]; omega
    · omega
theorem inSt_mem (k : Int) : ∀ (l : List T) (i x : Int), x ∈ inSt k l i ↔ ∃ (j : Nat) (t : T), l[j]? = some t ∧ x = i + j ∧ t.st = k
  | [], i, x => by simp [inSt]
  | t :: l, i, x => by
    have ih := inSt_mem k l (i + 1) x
    have key : (∃ (j : Nat) (t' : T), (t :: l)[j]? = some t' ∧ x = i + j ∧ t'.st = k) ↔ (x = i ∧ t.st = k) ∨ ∃ (j : Nat) (t' : T), l[j]? = some t' ∧ x = i + 1 + j ∧ t'.st = k := by
      constructor
      · rintro ⟨j, t', h1, h2, h3⟩
        cases j with
        | zero => simp at h1; subst h1; exact .inl ⟨by omega, h3⟩
        | succ j => exact .inr ⟨j, t', by simpa using h1, by omega, h3⟩
      · rintro (⟨h1, h2⟩ | ⟨j, t', h1, h2, h3⟩)
        · exact ⟨0, t, rfl, by omega, h2⟩
        · exact ⟨j + 1, t', by simpa using h1, by omega, h3⟩
    rw [key, inSt]
    split
    · rename_i h
      simp only [List.mem_cons, ih, h, and_true]
    · rename_i h
      simp only [ih, h, and_false, false_or]
theorem inSt_lb (k : Int) (l : List T) (i x : Int) (h : x ∈ inSt k l i) : i ≤ x := by
  obtain ⟨j, t, _, h, _⟩ := (inSt_mem k l i x).1 h
  omega
theorem inSt_nodup (k : Int) : ∀ (l : List T) (i : Int), (inSt k l i).Nodup
  | [], i => by simp [inSt]
  | t :: l, i => by
    simp only [inSt]
    split
    · rw [List.nodup_cons]
      exact ⟨fun h => by have := inSt_lb k l _ _ h; omega, inSt_nodup k l _⟩
    · exact inSt_nodup k l _
def allRdy (l : List Q) : List Int := l.flatMap fun q => q.ready
def allRun : List Q → List Int
  | [] => []
  | q :: l => if q.run = -1 then allRun l else q.run :: allRun l
theorem allRdy_len : ∀ (l : List Q), ((allRdy l).length : Int) = tot l
  | [] => rfl
  | q :: l => by
    have := allRdy_len l
    simp only [allRdy, List.flatMap_cons, List.length_append, tot] at this ⊢
    omega
theorem allRun_len : ∀ (l : List Q), ((allRun l).length : Int) = runs l
  | [] => rfl
  | q :: l => by
    have := allRun_len l
    simp only [allRun, runs]
    split <;> simp <;> omega
theorem allRdy_mem {l : List Q} {x : Int} : x ∈ allRdy l ↔ ∃ (k : Nat) (q : Q), l[k]? = some q ∧ x ∈ q.ready := by
  simp only [allRdy, List.mem_flatMap]
  constructor
  · rintro ⟨q, hq, hx⟩
    obtain ⟨k, hk, rfl⟩ := List.getElem_of_mem hq
    exact ⟨k, _, List.getElem?_eq_getElem hk, hx⟩
  · rintro ⟨k, q, hq, hx⟩
    exact ⟨q, List.mem_of_getElem? hq, hx⟩
theorem allRun_mem : ∀ {l : List Q} {x : Int}, x ∈ allRun l ↔ x ≠ -1 ∧ ∃ (k : Nat) (q : Q), l[k]? = some q ∧ q.run = x
  | [], x => by simp [allRun]
  | q :: l, x => by
    have key : (∃ (k : Nat) (q' : Q), (q :: l)[k]? = some q' ∧ q'.run = x) ↔ q.run = x ∨ ∃ (k : Nat) (q' : Q), l[k]? = some q' ∧ q'.run = x := by
      constructor
      · rintro ⟨k, q', h1, h2⟩
        cases k with
        | zero => simp at h1; subst h1; exact .inl h2
        | succ k => exact .inr ⟨k, q', by simpa using h1, h2⟩
      · rintro (h | ⟨k, q', h1, h2⟩)
        · exact ⟨0, q, rfl, h⟩
        · exact ⟨k + 1, q', by simpa using h1, h2⟩
    rw [key, allRun]
    split
    · rename_i h
      rw [allRun_mem]
      constructor
      · rintro ⟨h1, h2⟩; exact ⟨h1, .inr h2⟩
      · rintro ⟨h1, h2 | h2⟩
        · exact absurd (h2.symm.trans h) h1
        · exact ⟨h1, h2⟩
    · rename_i h
      rw [List.mem_cons, allRun_mem]
      constructor
      · rintro (rfl | ⟨h1, h2⟩)
        · exact ⟨h, .inl rfl⟩
        · exact ⟨h1, .inr h2⟩
      · rintro ⟨h1, rfl | h2⟩
        · exact .inl rfl
        · exact .inr ⟨h1, h2⟩
theorem allRdy_nodup (s : S) : ∀ (l : List Q) (c : Int), (∀ (k : Nat) q, l[k]? = some q → (∀ x ∈ q.ready, s.is x (c + k) 1 = true) ∧ q.ready.Nodup) → (allRdy l).Nodup
  | [], c, _ => by simp [allRdy]
  | q :: l, c, h => by
    have h0 := h 0 q rfl
    have ih := allRdy_nodup s l (c + 1) fun k q' hk => by
      have := h (k + 1) q' (by simpa using hk)
      rwa [show c + ((k + 1 : Nat) : Int) = c + 1 + k by omega] at this
    have : allRdy (q :: l) = q.ready ++ allRdy l := rfl
    rw [this, List.nodup_append]
    refine ⟨h0.2, ih, fun x hx y hy e => ?_⟩
    subst e
    obtain ⟨k, q', hk, hx'⟩ := allRdy_mem.1 hy
    have h1 := h0.1 x hx
    have h2 := (h (k + 1) q' (by simpa using hk)).1 x hx'
    have := (is_cpu h1 h2).1
    omega
theorem allRun_nodup (s : S) : ∀ (l : List Q) (c : Int), (∀ (k : Nat) q, l[k]? = some q → q.run = -1 ∨ s.is q.run (c + k) 2 = true) → (allRun l).Nodup
  | [], c, _ => by simp [allRun]
  | q :: l, c, h => by
    have h0 := h 0 q rfl
    have ih := allRun_nodup s l (c + 1) fun k q' hk => by
      have := h (k + 1) q' (by simpa using hk)
      rwa [show c + ((k + 1 : Nat) : Int) = c + 1 + k by omega] at this
    rw [allRun]
    split
    · exact ih
    · rename_i hn
      rw [List.nodup_cons]
      refine ⟨fun hm => ?_, ih⟩
      obtain ⟨_, k, q', hk, hr⟩ := allRun_mem.1 hm
      have h1 := h0.resolve_left hn
      have h2 := (h (k + 1) q' (by simpa using hk)).resolve_left (by rw [hr]; exact hn)
      rw [hr] at h2
      have := (is_cpu h1 h2).1
      omega
theorem badT_iff (s : S) (t : T) : s.badT t = false ↔ 0 ≤ t.pri ∧ t.pri ≤ 7 ∧ 0 ≤ t.cpu ∧ t.cpu < s.cpus.length ∧ 1 ≤ t.st ∧ t.st ≤ 4 := by
  simp only [S.badT, Bool.or_eq_false_iff, decide_eq_false_iff_not]
  omega
theorem badQ_iff (s : S) (c : Int) (q : Q) : s.badQ c q = false ↔ (q.run = -1 ∧ q.left = 0) ∨ (q.run ≠ -1 ∧ s.is q.run c 2 = true ∧ 0 ≤ q.left ∧ q.left ≤ s.quantum) := by
  unfold S.badQ
  by_cases h : q.run = -1
  · simp [h]
  · rw [if_neg h, Bool.or_eq_false_iff, Bool.or_eq_false_iff, decide_eq_false_iff_not, decide_eq_false_iff_not, Bool.not_eq_false']
    constructor
    · rintro ⟨⟨h1, h2⟩, h3⟩; exact .inr ⟨h, h1, by omega, by omega⟩
    · rintro (⟨h1, _⟩ | ⟨_, h1, h2, h3⟩)
      · exact absurd h1 h
      · exact ⟨⟨h1, by omega⟩, by omega⟩
theorem is_in {s : S} {x c st : Int} (h : s.is x c st = true) : x ∈ inSt st s.thr 0 := by
  obtain ⟨i, t, rfl, ht, _, h2⟩ := (show ∃ (i : Nat) (t : T), x = i ∧ s.thr[i]? = some t ∧ t.cpu = c ∧ t.st = st by
    have h0 := S.is_lt h
    unfold S.is at h
    split at h
    · rename_i t ht
      simp at h
      exact ⟨x.toNat, t, by omega, ht, h.1.2, h.2⟩
    · cases h)
  exact (inSt_mem _ _ _ _).2 ⟨i, t, ht, by omega, h2⟩
theorem is_of {s : S} {i : Nat} {t : T} (ht : s.thr[i]? = some t) : s.is i t.cpu t.st = true := by simp [S.is, ht]
theorem run_ne {s : S} {x c st : Int} (h : s.is x c st = true) : x ≠ -1 := by have := S.is_lt h; omega
theorem valid_iff (s : S) : s.valid = true ↔ s.Ok := by
  rw [S.valid]
  by_cases hb : s.cpus.length < 1 ∨ 4 < s.cpus.length ∨ 16 < s.thr.length ∨ s.quantum < 1 ∨ 20 < s.quantum
  · rw [if_pos hb]
    constructor
    · intro h; cases h
    · intro h
      have := h.c1; have := h.c4; have := h.t16; have := h.q1; have := h.q20
      omega
  rw [if_neg hb, scanT_eq]
  refine Decidable.byCases (p := ∀ t ∈ s.thr, s.badT t = false) (fun ht => ?_) (fun ht => ?_)
  rotate_left
  · rw [if_neg ht]
    constructor
    · intro h; cases h
    · intro h
      exact absurd (fun t ht => (badT_iff s t).2 (h.thr t ht)) ht
  rw [if_pos ht]
  simp only [scanQ_iff, Int.zero_add]
  constructor
  · rintro ⟨h1, h2, h3⟩
    have hrdy : ∀ (k : Nat) q, s.cpus[k]? = some q → (∀ x ∈ q.ready, s.is x (0 + k) 1 = true) ∧ q.ready.Nodup := fun k q hk => by
      rw [Int.zero_add]; exact ⟨(h1 k q hk).1.2.1, (h1 k q hk).1.2.2.1⟩
    have hrun : ∀ (k : Nat) q, s.cpus[k]? = some q → q.run = -1 ∨ s.is q.run (0 + k) 2 = true := fun k q hk => by
      rw [Int.zero_add]
      exact ((badQ_iff s k q).1 (h1 k q hk).1.1).imp (fun h => h.1) fun h => h.2.1
    have hnd := allRdy_nodup s s.cpus 0 hrdy
    have hnr := allRun_nodup s s.cpus 0 hrun
    have a1 := sub_all (m := inSt 1 s.thr 0) hnd (fun x hx => by
      obtain ⟨k, q, hk, hx⟩ := allRdy_mem.1 hx
      exact is_in ((hrdy k q hk).1 x hx)) (by have := inSt_len 1 s.thr 0; have := allRdy_len s.cpus; omega)
    have a2 := sub_all (m := inSt 2 s.thr 0) hnr (fun x hx => by
      obtain ⟨hx, k, q, hk, rfl⟩ := allRun_mem.1 hx
      exact is_in ((hrun k q hk).resolve_left hx)) (by have := inSt_len 2 s.thr 0; have := allRun_len s.cpus; omega)
    refine ⟨by omega, by omega, by omega, by omega, by omega, fun t h => (badT_iff s t).1 (ht t h), fun c q hq => ?_, fun c q hq => ?_, fun i t hi hst => ?_, fun i t hi hst => ?_⟩
    · exact ((badQ_iff s c q).1 (h1 c q hq).1.1).imp id fun h => h.2
    · exact (h1 c q hq).1.2
    · obtain ⟨k, q, hk, hx⟩ := allRdy_mem.1 (a1 i ((inSt_mem _ _ _ _).2 ⟨i, t, hi, by omega, hst⟩))
      have := (is_cpu ((hrdy k q hk).1 _ hx) (is_of hi)).1
      exact ⟨q, by rw [show t.cpu.toNat = k by omega]; exact hk, hx⟩
    · obtain ⟨hne, k, q, hk, hx⟩ := allRun_mem.1 (a2 i ((inSt_mem _ _ _ _).2 ⟨i, t, hi, by omega, hst⟩))
      have h5 := (hrun k q hk).resolve_left (by rw [hx]; exact hne)
      rw [hx] at h5
      have := (is_cpu h5 (is_of hi)).1
      exact ⟨q, by rw [show t.cpu.toNat = k by omega]; exact hk, hx⟩
  · intro h
    have hrdy : ∀ (k : Nat) q, s.cpus[k]? = some q → (∀ x ∈ q.ready, s.is x (0 + k) 1 = true) ∧ q.ready.Nodup := fun k q hk => by
      rw [Int.zero_add]; exact ⟨(h.rdy k q hk).1, (h.rdy k q hk).2.1⟩
    have hrun : ∀ (k : Nat) q, s.cpus[k]? = some q → q.run = -1 ∨ s.is q.run (0 + k) 2 = true := fun k q hk => by
      rw [Int.zero_add]
      exact (h.run k q hk).imp (fun h => h.1) fun h => h.1
    have hnd := allRdy_nodup s s.cpus 0 hrdy
    have hnr := allRun_nodup s s.cpus 0 hrun
    refine ⟨fun k q hk => ⟨⟨(badQ_iff s k q).2 ?_, h.rdy k q hk⟩, by simp⟩, ?_, ?_⟩
    · exact (h.run k q hk).imp id fun h => ⟨run_ne h.1, h⟩
    · have l1 := sub_len (allRdy s.cpus) (inSt 1 s.thr 0) hnd fun x hx => by
        obtain ⟨k, q, hk, hx⟩ := allRdy_mem.1 hx
        exact is_in ((hrdy k q hk).1 x hx)
      have l2 := sub_len (inSt 1 s.thr 0) (allRdy s.cpus) (inSt_nodup _ _ _) fun x hx => by
        obtain ⟨j, t, hj, rfl, hst⟩ := (inSt_mem _ _ _ _).1 hx
        obtain ⟨q, hq, hm⟩ := h.allr j t hj hst
        exact allRdy_mem.2 ⟨_, q, hq, by simpa using hm⟩
      have := inSt_len 1 s.thr 0; have := allRdy_len s.cpus; omega
    · have l1 := sub_len (allRun s.cpus) (inSt 2 s.thr 0) hnr fun x hx => by
        obtain ⟨hx, k, q, hk, rfl⟩ := allRun_mem.1 hx
        exact is_in ((hrun k q hk).resolve_left hx)
      have l2 := sub_len (inSt 2 s.thr 0) (allRun s.cpus) (inSt_nodup _ _ _) fun x hx => by
        obtain ⟨j, t, hj, rfl, hst⟩ := (inSt_mem _ _ _ _).1 hx
        obtain ⟨q, hq, hm⟩ := h.allrun j t hj hst
        exact allRun_mem.2 ⟨by omega, _, q, hq, by omega⟩
      have := inSt_len 2 s.thr 0; have := allRun_len s.cpus; omega
end Go.Proofs.Ytljepmbikbdicaa

set_option maxRecDepth 100000
set_option linter.unusedVariables false
set_option linter.unusedSimpArgs false
namespace Go.Proofs.Ytljepmbikbdicaa
open Go.AM
/-- The state and the error behind an operation. -/
def S.res (s : S) (r : Option S) (e : Int) : S × Int := if s.valid = true then match r with
  | some s' => (s', 0)
  | none => (S.zero, e)
  else (S.zero, 50)
theorem S.res_ok {s s' : S} {r : Option S} {e : Int} (hv : s.valid = true) (hr : r = some s') : s.res r e = (s', 0) := by subst hr; simp [S.res, hv]
theorem S.res_no {s : S} {r : Option S} {e : Int} (hv : s.valid = true) (hr : r = none) : s.res r e = (S.zero, e) := by subst hr; simp [S.res, hv]
theorem S.res_bad {s : S} {r : Option S} {e : Int} (hv : s.valid = false) : s.res r e = (S.zero, 50) := by simp [S.res, hv]
theorem do_c1 (s : S) (g : FuncId) (x : AV) (r : Option S) (e : Int) (hx : ∀ m, x.lt m = true) (hE : Enters Try.prog g) (h : s.Ok → Clo g s [.rows 1 [[x]]] [.ptr 3 0 0] r e [.rows 1 [[x]]]) :
    ACalls Try.prog 45 [s.av, .func (.func g) [] [.ptr 0 0 0]] [.rows 1 [[x]]] (fun o H => o = .ret (.tuple [(s.res r e).1.av, iv (s.res r e).2]) ∧ H = [.rows 1 [[x]]]) := by
  by_cases hv : s.valid = true
  · have hok := (valid_iff s).1 hv
    have hc := h hok
    cases r with
    | some s' =>
      rw [S.res_ok hv rfl]
      exact do_r1 s s' g x x hx hx hv hok.fit hE hc
    | none =>
      rw [S.res_no hv rfl]
      exact do_p1 s e g x x hx hx hv hok.fit hE hc
  · have hv : s.valid = false := by simpa using hv
    rw [S.res_bad hv]
    exact do_n1 s g x hx hv
theorem do_c2 (s : S) (g : FuncId) (x y z : AV) (r : Option S) (e : Int) (hx : ∀ m, x.lt m = true) (hy : ∀ m, y.lt m = true) (hz : ∀ m, z.lt m = true) (hE : Enters Try.prog g) (h : s.Ok → Clo g s [.rows 1 [[x]], .rows 1 [[y]]] [.ptr 3 0 0, .ptr 4 0 0] r e [.rows 1 [[x]], .rows 1 [[z]]]) (hn : s.valid = false → y = z) :
    ACalls Try.prog 45 [s.av, .func (.func g) [] [.ptr 0 0 0, .ptr 1 0 0]] [.rows 1 [[x]], .rows 1 [[y]]] (fun o H => o = .ret (.tuple [(s.res r e).1.av, iv (s.res r e).2]) ∧ H = [.rows 1 [[x]], .rows 1 [[z]]]) := by
  by_cases hv : s.valid = true
  · have hok := (valid_iff s).1 hv
    have hc := h hok
    cases r with
    | some s' =>
      rw [S.res_ok hv rfl]
      exact do_r2 s s' g x y x z hx hy hx hz hv hok.fit hE hc
    | none =>
      rw [S.res_no hv rfl]
      exact do_p2 s e g x y x z hx hy hx hz hv hok.fit hE hc
  · have hv : s.valid = false := by simpa using hv
    rw [S.res_bad hv]
    have := hn hv
    subst this
    exact do_n2 s g x y hx hy hv

theorem End_c (s : S) (n : Int) : ACalls Try.prog 19 [s.av, iv n] [] (fun o H => o = .ret (.tuple [(s.res (s.eEnd n) 51).1.av, iv (s.res (s.eEnd n) 51).2]) ∧ H = []) := by
  have hc := do_c1 s 56 (iv n) (s.eEnd n) 51 (fun _ => rfl) (enters_of Try.func56 rfl (by decide)) (fun h => End_clo s h n)
  generalize s.res (s.eEnd n) 51 = p at hc
  obtain ⟨s1, e1⟩ := p
  refine ACalls.up ?_
  refine ACalls.intro (cs := []) (n := 11) Try.func19 rfl rfl rfl (by kernel_rfl) rfl ?_
  simp only [go_sem, Nat.reduceAdd, Nat.reduceSub, Nat.reduceMul, Nat.reduceEqDiff, Nat.reduceLeDiff, Nat.reduceLT, ↓reduceIte, Int.reduceToNat, reduceCtorEq, S.av]
  refine rK_use (enters_of Try.func45 rfl (by decide)) (hc.useE [1] (.tuple [s1.av, iv e1]) [.rows 3 [[.view false 3 (s.cpus.map Q.row), .view false 3 (s.thr.map T.row), iv s.quantum]], .rows 1 [[iv n]], .rows 3 [[.view true 0 [], .view true 0 [], iv 0]]]
    (by simp) rfl (by simp) (by simp [Blk.ren, AV.ren]) (by simp [AV.ren, S.av, renL, pi]) (by simp [AV.ren, S.av, renL]) (by simp [patch, setMany, Blk.ren, AV.ren])) ?_
  simp only [go_sem, Nat.reduceAdd, Nat.reduceSub, Nat.reduceMul, Nat.reduceEqDiff, Nat.reduceLeDiff, Nat.reduceLT, ↓reduceIte, Int.reduceToNat, reduceCtorEq, S.av]
  exact .gc 0 (Nat.le_refl _) (Nat.zero_le _) (by simp [Out.lt, AV.lt, ltL]) (by simp) (.done ⟨rfl, rfl⟩)

theorem Block_c (s : S) (n : Int) : ACalls Try.prog 20 [s.av, iv n] [] (fun o H => o = .ret (.tuple [(s.res (s.eBlock n) 51).1.av, iv (s.res (s.eBlock n) 51).2]) ∧ H = []) := by
  have hc := do_c1 s 59 (iv n) (s.eBlock n) 51 (fun _ => rfl) (enters_of Try.func59 rfl (by decide)) (fun h => Block_clo s h n)
  generalize s.res (s.eBlock n) 51 = p at hc
  obtain ⟨s1, e1⟩ := p
  refine ACalls.up ?_
  refine ACalls.intro (cs := []) (n := 11) Try.func20 rfl rfl rfl (by kernel_rfl) rfl ?_
  simp only [go_sem, Nat.reduceAdd, Nat.reduceSub, Nat.reduceMul, Nat.reduceEqDiff, Nat.reduceLeDiff, Nat.reduceLT, ↓reduceIte, Int.reduceToNat, reduceCtorEq, S.av]
  refine rK_use (enters_of Try.func45 rfl (by decide)) (hc.useE [1] (.tuple [s1.av, iv e1]) [.rows 3 [[.view false 3 (s.cpus.map Q.row), .view false 3 (s.thr.map T.row), iv s.quantum]], .rows 1 [[iv n]], .rows 3 [[.view true 0 [], .view true 0 [], iv 0]]]
    (by simp) rfl (by simp) (by simp [Blk.ren, AV.ren]) (by simp [AV.ren, S.av, renL, pi]) (by simp [AV.ren, S.av, renL]) (by simp [patch, setMany, Blk.ren, AV.ren])) ?_
  simp only [go_sem, Nat.reduceAdd, Nat.reduceSub, Nat.reduceMul, Nat.reduceEqDiff, Nat.reduceLeDiff, Nat.reduceLT, ↓reduceIte, Int.reduceToNat, reduceCtorEq, S.av]
  exact .gc 0 (Nat.le_refl _) (Nat.zero_le _) (by simp [Out.lt, AV.lt, ltL]) (by simp) (.done ⟨rfl, rfl⟩)

theorem Yield_c (s : S) (n : Int) : ACalls Try.prog 35 [s.av, iv n] [] (fun o H => o = .ret (.tuple [(s.res (s.eYield n) 52).1.av, iv (s.res (s.eYield n) 52).2]) ∧ H = []) := by
  have hc := do_c1 s 77 (iv n) (s.eYield n) 52 (fun _ => rfl) (enters_of Try.func77 rfl (by decide)) (fun h => Yield_clo s h n)
  generalize s.res (s.eYield n) 52 = p at hc
  obtain ⟨s1, e1⟩ := p
  refine ACalls.up ?_
  refine ACalls.intro (cs := []) (n := 11) Try.func35 rfl rfl rfl (by kernel_rfl) rfl ?_
  simp only [go_sem, Nat.reduceAdd, Nat.reduceSub, Nat.reduceMul, Nat.reduceEqDiff, Nat.reduceLeDiff, Nat.reduceLT, ↓reduceIte, Int.reduceToNat, reduceCtorEq, S.av]
  refine rK_use (enters_of Try.func45 rfl (by decide)) (hc.useE [1] (.tuple [s1.av, iv e1]) [.rows 3 [[.view false 3 (s.cpus.map Q.row), .view false 3 (s.thr.map T.row), iv s.quantum]], .rows 1 [[iv n]], .rows 3 [[.view true 0 [], .view true 0 [], iv 0]]]
    (by simp) rfl (by simp) (by simp [Blk.ren, AV.ren]) (by simp [AV.ren, S.av, renL, pi]) (by simp [AV.ren, S.av, renL]) (by simp [patch, setMany, Blk.ren, AV.ren])) ?_
  simp only [go_sem, Nat.reduceAdd, Nat.reduceSub, Nat.reduceMul, Nat.reduceEqDiff, Nat.reduceLeDiff, Nat.reduceLT, ↓reduceIte, Int.reduceToNat, reduceCtorEq, S.av]
  exact .gc 0 (Nat.le_refl _) (Nat.zero_le _) (by simp [Out.lt, AV.lt, ltL]) (by simp) (.done ⟨rfl, rfl⟩)

theorem Wake_c (s : S) (n : Int) : ACalls Try.prog 21 [s.av, iv n] [] (fun o H => o = .ret (.tuple [(s.res (s.eWake n) 51).1.av, AV.bool (if s.valid = true then s.dWake n else false), iv (s.res (s.eWake n) 51).2]) ∧ H = []) := by
  have hc := do_c2 s 60 (iv n) (AV.bool false) (AV.bool (if s.valid = true then s.dWake n else false)) (s.eWake n) 51 (fun _ => rfl) (fun _ => rfl) (fun _ => rfl) (enters_of Try.func60 rfl (by decide)) (fun h => by rw [if_pos ((valid_iff s).2 h)]; exact Wake_clo s h n) (fun h => by rw [if_neg (by simp [h])])
  generalize s.res (s.eWake n) 51 = p at hc
  generalize hz : AV.bool (if s.valid = true then s.dWake n else false) = z at hc
  have hz0 : ∀ m, z.lt m = true := fun m => by subst hz; rfl
  obtain ⟨s1, e1⟩ := p
  refine ACalls.up ?_
  refine ACalls.intro (cs := []) (n := 19) Try.func21 rfl rfl rfl (by kernel_rfl) rfl ?_
  simp only [go_sem, Nat.reduceAdd, Nat.reduceSub, Nat.reduceMul, Nat.reduceEqDiff, Nat.reduceLeDiff, Nat.reduceLT, ↓reduceIte, Int.reduceToNat, reduceCtorEq, S.av]
  refine rK_use (enters_of Try.func45 rfl (by decide)) (hc.useE [1, 3] (.tuple [s1.av, iv e1]) [.rows 3 [[.view false 3 (s.cpus.map Q.row), .view false 3 (s.thr.map T.row), iv s.quantum]], .rows 1 [[iv n]], .rows 3 [[.view true 0 [], .view true 0 [], iv 0]], .rows 1 [[z]]]
    (by simp) rfl (by simp) (by simp [Blk.ren, AV.ren, pi]) (by simp [AV.ren, S.av, renL, pi]) (by simp [AV.ren, S.av, renL]) (by simp [patch, setMany, Blk.ren, AV.ren, ren_pure (hz0 0)])) ?_
  simp only [go_sem, Nat.reduceAdd, Nat.reduceSub, Nat.reduceMul, Nat.reduceEqDiff, Nat.reduceLeDiff, Nat.reduceLT, ↓reduceIte, Int.reduceToNat, reduceCtorEq, S.av]
  refine draw [.qu 0 0, .rd 0 1, .qu 0 1, .mn 0, .qu 1 1, .qu 1 1] (by kernel_rfl) (by kernel_rfl) ?_
  simp only [go_sem, Nat.reduceAdd, Nat.reduceSub, Nat.reduceMul, Nat.reduceEqDiff, Nat.reduceLeDiff, Nat.reduceLT, ↓reduceIte, Int.reduceToNat, reduceCtorEq, S.av]
  exact .gc 0 (Nat.le_refl _) (Nat.zero_le _) (by simp [Out.lt, AV.lt, ltL, hz0]) (by simp) (.done ⟨rfl, rfl⟩)

theorem Tick_c (s : S) (n : Int) : ACalls Try.prog 17 [s.av, iv n] [] (fun o H => o = .ret (.tuple [(s.res ((s.cp n).map fun _ => s.tick n.toNat) 52).1.av, AV.bool (if s.valid = true then (s.cp n).isSome && (s.tick n.toNat).due n.toNat else false), iv (s.res ((s.cp n).map fun _ => s.tick n.toNat) 52).2]) ∧ H = []) := by
  have hc := do_c2 s 52 (iv n) (AV.bool false) (AV.bool (if s.valid = true then (s.cp n).isSome && (s.tick n.toNat).due n.toNat else false)) ((s.cp n).map fun _ => s.tick n.toNat) 52 (fun _ => rfl) (fun _ => rfl) (fun _ => rfl) (enters_of Try.func52 rfl (by decide)) (fun h => by rw [if_pos ((valid_iff s).2 h)]; exact Tick_clo s h n) (fun h => by rw [if_neg (by simp [h])])
  generalize s.res ((s.cp n).map fun _ => s.tick n.toNat) 52 = p at hc
  generalize hz : AV.bool (if s.valid = true then (s.cp n).isSome && (s.tick n.toNat).due n.toNat else false) = z at hc
  have hz0 : ∀ m, z.lt m = true := fun m => by subst hz; rfl
  obtain ⟨s1, e1⟩ := p
  refine ACalls.up ?_
  refine ACalls.intro (cs := []) (n := 19) Try.func17 rfl rfl rfl (by kernel_rfl) rfl ?_
  simp only [go_sem, Nat.reduceAdd, Nat.reduceSub, Nat.reduceMul, Nat.reduceEqDiff, Nat.reduceLeDiff, Nat.reduceLT, ↓reduceIte, Int.reduceToNat, reduceCtorEq, S.av]
  refine rK_use (enters_of Try.func45 rfl (by decide)) (hc.useE [1, 3] (.tuple [s1.av, iv e1]) [.rows 3 [[.view false 3 (s.cpus.map Q.row), .view false 3 (s.thr.map T.row), iv s.quantum]], .rows 1 [[iv n]], .rows 3 [[.view true 0 [], .view true 0 [], iv 0]], .rows 1 [[z]]]
    (by simp) rfl (by simp) (by simp [Blk.ren, AV.ren, pi]) (by simp [AV.ren, S.av, renL, pi]) (by simp [AV.ren, S.av, renL]) (by simp [patch, setMany, Blk.ren, AV.ren, ren_pure (hz0 0)])) ?_
  simp only [go_sem, Nat.reduceAdd, Nat.reduceSub, Nat.reduceMul, Nat.reduceEqDiff, Nat.reduceLeDiff, Nat.reduceLT, ↓reduceIte, Int.reduceToNat, reduceCtorEq, S.av]
  refine draw [.qu 0 0, .rd 0 1, .qu 0 1, .mn 0, .qu 1 1, .qu 1 1] (by kernel_rfl) (by kernel_rfl) ?_
  simp only [go_sem, Nat.reduceAdd, Nat.reduceSub, Nat.reduceMul, Nat.reduceEqDiff, Nat.reduceLeDiff, Nat.reduceLT, ↓reduceIte, Int.reduceToNat, reduceCtorEq, S.av]
  exact .gc 0 (Nat.le_refl _) (Nat.zero_le _) (by simp [Out.lt, AV.lt, ltL, hz0]) (by simp) (.done ⟨rfl, rfl⟩)

theorem Switch_c (s : S) (n : Int) : ACalls Try.prog 14 [s.av, iv n] [] (fun o H => o = .ret (.tuple [(s.res ((s.cp n).map fun _ => s.sw n.toNat) 52).1.av, iv (if s.valid = true then if (s.cp n).isSome then (s.sw n.toNat).runOf n.toNat else 0 else 0), iv (s.res ((s.cp n).map fun _ => s.sw n.toNat) 52).2]) ∧ H = []) := by
  have hc := do_c2 s 46 (iv n) (iv 0) (iv (if s.valid = true then if (s.cp n).isSome then (s.sw n.toNat).runOf n.toNat else 0 else 0)) ((s.cp n).map fun _ => s.sw n.toNat) 52 (fun _ => rfl) (fun _ => rfl) (fun _ => rfl) (enters_of Try.func46 rfl (by decide)) (fun h => by rw [if_pos ((valid_iff s).2 h)]; exact Switch_clo s h n) (fun h => by rw [if_neg (by simp [h])])
  generalize s.res ((s.cp n).map fun _ => s.sw n.toNat) 52 = p at hc
  generalize hz : iv (if s.valid = true then if (s.cp n).isSome then (s.sw n.toNat).runOf n.toNat else 0 else 0) = z at hc
  have hz0 : ∀ m, z.lt m = true := fun m => by subst hz; rfl
  obtain ⟨s1, e1⟩ := p
  refine ACalls.up ?_
  refine ACalls.intro (cs := []) (n := 19) Try.func14 rfl rfl rfl (by kernel_rfl) rfl ?_
  simp only [go_sem, Nat.reduceAdd, Nat.reduceSub, Nat.reduceMul, Nat.reduceEqDiff, Nat.reduceLeDiff, Nat.reduceLT, ↓reduceIte, Int.reduceToNat, reduceCtorEq, S.av]
  refine rK_use (enters_of Try.func45 rfl (by decide)) (hc.useE [1, 3] (.tuple [s1.av, iv e1]) [.rows 3 [[.view false 3 (s.cpus.map Q.row), .view false 3 (s.thr.map T.row), iv s.quantum]], .rows 1 [[iv n]], .rows 3 [[.view true 0 [], .view true 0 [], iv 0]], .rows 1 [[z]]]
    (by simp) rfl (by simp) (by simp [Blk.ren, AV.ren, pi]) (by simp [AV.ren, S.av, renL, pi]) (by simp [AV.ren, S.av, renL]) (by simp [patch, setMany, Blk.ren, AV.ren, ren_pure (hz0 0)])) ?_
  simp only [go_sem, Nat.reduceAdd, Nat.reduceSub, Nat.reduceMul, Nat.reduceEqDiff, Nat.reduceLeDiff, Nat.reduceLT, ↓reduceIte, Int.reduceToNat, reduceCtorEq, S.av]
  refine draw [.qu 0 0, .rd 0 1, .qu 0 1, .mn 0, .qu 1 1, .qu 1 1] (by kernel_rfl) (by kernel_rfl) ?_
  simp only [go_sem, Nat.reduceAdd, Nat.reduceSub, Nat.reduceMul, Nat.reduceEqDiff, Nat.reduceLeDiff, Nat.reduceLT, ↓reduceIte, Int.reduceToNat, reduceCtorEq, S.av]
  exact .gc 0 (Nat.le_refl _) (Nat.zero_le _) (by simp [Out.lt, AV.lt, ltL, hz0]) (by simp) (.done ⟨rfl, rfl⟩)

theorem Steal_c (s : S) (n : Int) : ACalls Try.prog 36 [s.av, iv n] [] (fun o H => o = .ret (.tuple [(s.res ((s.cp n).map fun _ => s.steal n.toNat) 52).1.av, iv (if s.valid = true then if (s.cp n).isSome then s.nSteal n.toNat else 0 else 0), iv (s.res ((s.cp n).map fun _ => s.steal n.toNat) 52).2]) ∧ H = []) := by
  have hc := do_c2 s 78 (iv n) (iv 0) (iv (if s.valid = true then if (s.cp n).isSome then s.nSteal n.toNat else 0 else 0)) ((s.cp n).map fun _ => s.steal n.toNat) 52 (fun _ => rfl) (fun _ => rfl) (fun _ => rfl) (enters_of Try.func78 rfl (by decide)) (fun h => by rw [if_pos ((valid_iff s).2 h)]; exact Steal_clo s h n) (fun h => by rw [if_neg (by simp [h])])
  generalize s.res ((s.cp n).map fun _ => s.steal n.toNat) 52 = p at hc
  generalize hz : iv (if s.valid = true then if (s.cp n).isSome then s.nSteal n.toNat else 0 else 0) = z at hc
  have hz0 : ∀ m, z.lt m = true := fun m => by subst hz; rfl
  obtain ⟨s1, e1⟩ := p
  refine ACalls.up ?_
  refine ACalls.intro (cs := []) (n := 19) Try.func36 rfl rfl rfl (by kernel_rfl) rfl ?_
  simp only [go_sem, Nat.reduceAdd, Nat.reduceSub, Nat.reduceMul, Nat.reduceEqDiff, Nat.reduceLeDiff, Nat.reduceLT, ↓reduceIte, Int.reduceToNat, reduceCtorEq, S.av]
  refine rK_use (enters_of Try.func45 rfl (by decide)) (hc.useE [1, 3] (.tuple [s1.av, iv e1]) [.rows 3 [[.view false 3 (s.cpus.map Q.row), .view false 3 (s.thr.map T.row), iv s.quantum]], .rows 1 [[iv n]], .rows 3 [[.view true 0 [], .view true 0 [], iv 0]], .rows 1 [[z]]]
    (by simp) rfl (by simp) (by simp [Blk.ren, AV.ren, pi]) (by simp [AV.ren, S.av, renL, pi]) (by simp [AV.ren, S.av, renL]) (by simp [patch, setMany, Blk.ren, AV.ren, ren_pure (hz0 0)])) ?_
  simp only [go_sem, Nat.reduceAdd, Nat.reduceSub, Nat.reduceMul, Nat.reduceEqDiff, Nat.reduceLeDiff, Nat.reduceLT, ↓reduceIte, Int.reduceToNat, reduceCtorEq, S.av]
  refine draw [.qu 0 0, .rd 0 1, .qu 0 1, .mn 0, .qu 1 1, .qu 1 1] (by kernel_rfl) (by kernel_rfl) ?_
  simp only [go_sem, Nat.reduceAdd, Nat.reduceSub, Nat.reduceMul, Nat.reduceEqDiff, Nat.reduceLeDiff, Nat.reduceLT, ↓reduceIte, Int.reduceToNat, reduceCtorEq, S.av]
  exact .gc 0 (Nat.le_refl _) (Nat.zero_le _) (by simp [Out.lt, AV.lt, ltL, hz0]) (by simp) (.done ⟨rfl, rfl⟩)

theorem SetPri_c (s : S) (n p : Int) : ACalls Try.prog 22 [s.av, iv n, iv p] [] (fun o H => o = .ret (.tuple [(s.res (s.eSetPri n p) (s.rSetPri n)).1.av, iv (s.res (s.eSetPri n p) (s.rSetPri n)).2]) ∧ H = []) := by
  have hc := do_c2 s 61 (iv n) (iv p) (iv p) (s.eSetPri n p) (s.rSetPri n) (fun _ => rfl) (fun _ => rfl) (fun _ => rfl) (enters_of Try.func61 rfl (by decide)) (fun h => SetPri_clo s h n p) (fun h => rfl)
  generalize s.res (s.eSetPri n p) (s.rSetPri n) = r at hc
  obtain ⟨s1, e1⟩ := r
  refine ACalls.up ?_
  refine ACalls.intro (cs := []) (n := 13) Try.func22 rfl rfl rfl (by kernel_rfl) rfl ?_
  simp only [go_sem, Nat.reduceAdd, Nat.reduceSub, Nat.reduceMul, Nat.reduceEqDiff, Nat.reduceLeDiff, Nat.reduceLT, ↓reduceIte, Int.reduceToNat, reduceCtorEq, S.av]
  refine rK_use (enters_of Try.func45 rfl (by decide)) (hc.useE [1, 2] (.tuple [s1.av, iv e1]) [.rows 3 [[.view false 3 (s.cpus.map Q.row), .view false 3 (s.thr.map T.row), iv s.quantum]], .rows 1 [[iv n]], .rows 1 [[iv p]], .rows 3 [[.view true 0 [], .view true 0 [], iv 0]]]
    (by simp) rfl (by simp) (by simp [Blk.ren, AV.ren]) (by simp [AV.ren, S.av, renL, pi]) (by simp [AV.ren, S.av, renL]) (by simp [patch, setMany, Blk.ren, AV.ren])) ?_
  simp only [go_sem, Nat.reduceAdd, Nat.reduceSub, Nat.reduceMul, Nat.reduceEqDiff, Nat.reduceLeDiff, Nat.reduceLT, ↓reduceIte, Int.reduceToNat, reduceCtorEq, S.av]
  exact .gc 0 (Nat.le_refl _) (Nat.zero_le _) (by simp [Out.lt, AV.lt, ltL]) (by simp) (.done ⟨rfl, rfl⟩)
def S.rDue (s : S) (n : Int) : Bool := if s.valid = true then (s.cp n).isSome && s.due n.toNat else false
theorem Due_c (s : S) (n : Int) : ACalls Try.prog 15 [s.av, iv n] [] (fun o H => o = .ret (.bool (s.rDue n)) ∧ H = []) := by
  have hc := do_c2 s 50 (iv n) (AV.bool false) (AV.bool (s.rDue n)) ((s.cp n).map fun _ => s) 52 (fun _ => rfl) (fun _ => rfl) (fun _ => rfl) (enters_of Try.func50 rfl (by decide)) (fun h => by rw [S.rDue, if_pos ((valid_iff s).2 h)]; exact Due_clo s h n) (fun h => by rw [S.rDue, if_neg (by simp [h])])
  generalize s.res ((s.cp n).map fun _ => s) 52 = r at hc
  obtain ⟨s1, e1⟩ := r
  refine ACalls.up ?_
  refine ACalls.intro (cs := []) (n := 10) Try.func15 rfl rfl rfl (by kernel_rfl) rfl ?_
  simp only [go_sem, Nat.reduceAdd, Nat.reduceSub, Nat.reduceMul, Nat.reduceEqDiff, Nat.reduceLeDiff, Nat.reduceLT, ↓reduceIte, Int.reduceToNat, reduceCtorEq, S.av]
  refine rK_use (enters_of Try.func45 rfl (by decide)) (hc.useE [1, 2] (.tuple [s1.av, iv e1]) [.rows 3 [[.view false 3 (s.cpus.map Q.row), .view false 3 (s.thr.map T.row), iv s.quantum]], .rows 1 [[iv n]], .rows 1 [[.bool (s.rDue n)]]]
    (by simp) rfl (by simp) (by simp [Blk.ren, AV.ren]) (by simp [AV.ren, S.av, renL, pi]) (by simp [AV.ren, S.av, renL]) (by simp [patch, setMany, Blk.ren, AV.ren])) ?_
  simp only [go_sem, Nat.reduceAdd, Nat.reduceSub, Nat.reduceMul, Nat.reduceEqDiff, Nat.reduceLeDiff, Nat.reduceLT, ↓reduceIte, Int.reduceToNat, reduceCtorEq, S.av]
  exact .gc 0 (Nat.le_refl _) (Nat.zero_le _) (by simp [Out.lt, AV.lt, ltL]) (by simp) (.done ⟨rfl, rfl⟩)
def S.nAdd (s : S) (p c : Int) : Int := if s.valid = true then if (s.eAdd p c).isSome then s.thr.length else 0 else 0
theorem do_c3 (s : S) (p c : Int) : ACalls Try.prog 45 [s.av, .func (.func 53) [] [.ptr 0 0 0, .ptr 1 0 0, .ptr 2 0 0]] [.rows 1 [[iv c]], .rows 1 [[iv p]], .rows 1 [[iv 0]]]
    (fun o H => o = .ret (.tuple [(s.res (s.eAdd p c) (s.rAdd p c)).1.av, iv (s.res (s.eAdd p c) (s.rAdd p c)).2]) ∧ H = [.rows 1 [[iv c]], .rows 1 [[iv p]], .rows 1 [[iv (s.nAdd p c)]]]) := by
  by_cases hv : s.valid = true
  · have hok := (valid_iff s).1 hv
    rw [S.nAdd, if_pos hv]
    cases hr : s.eAdd p c with
    | some s' =>
      rw [S.res_ok hv rfl]
      have hr2 := hr
      unfold S.eAdd at hr2
      cases hqc : s.cp c with
      | none => rw [hqc] at hr2; cases hr2
      | some q =>
        rw [hqc] at hr2
        obtain ⟨i, rfl, hq⟩ := S.cp_some hqc
        simp only at hr2
        split at hr2
        · rename_i hh
          have := Add_ret s hok p i q hq hh.1 hh.2 s' (by simpa using hr2.symm)
          exact do_add s s' _ _ _ _ _ _ _ (fun _ => rfl) (fun _ => rfl) (fun _ => rfl) (fun _ => rfl) (fun _ => rfl) (fun _ => rfl) hv hok.fit (enters_of Try.func53 rfl (by decide)) this
        · cases hr2
    | none =>
      rw [S.res_no hv rfl]
      exact do_p3 s _ _ _ _ _ _ _ _ (fun _ => rfl) (fun _ => rfl) (fun _ => rfl) (fun _ => rfl) (fun _ => rfl) (fun _ => rfl) hv hok.fit (enters_of Try.func53 rfl (by decide)) (Add_pan s hok p c hr)
  · have hv : s.valid = false := by simpa using hv
    rw [S.res_bad hv, S.nAdd, if_neg (by simp [hv])]
    exact do_n3 s _ _ _ _ (fun _ => rfl) (fun _ => rfl) (fun _ => rfl) hv
theorem Add_c (s : S) (p c : Int) : ACalls Try.prog 18 [s.av, iv p, iv c] [] (fun o H => o = .ret (.tuple [(s.res (s.eAdd p c) (s.rAdd p c)).1.av, iv (s.nAdd p c), iv (s.res (s.eAdd p c) (s.rAdd p c)).2]) ∧ H = []) := by
  have hc := do_c3 s p c
  generalize s.res (s.eAdd p c) (s.rAdd p c) = r at hc
  obtain ⟨s1, e1⟩ := r
  refine ACalls.up ?_
  refine ACalls.intro (cs := []) (n := 21) Try.func18 rfl rfl rfl (by kernel_rfl) rfl ?_
  simp only [go_sem, Nat.reduceAdd, Nat.reduceSub, Nat.reduceMul, Nat.reduceEqDiff, Nat.reduceLeDiff, Nat.reduceLT, ↓reduceIte, Int.reduceToNat, reduceCtorEq, S.av]
  refine rK_use (enters_of Try.func45 rfl (by decide)) (hc.useE [2, 1, 4] (.tuple [s1.av, iv e1]) [.rows 3 [[.view false 3 (s.cpus.map Q.row), .view false 3 (s.thr.map T.row), iv s.quantum]], .rows 1 [[iv p]], .rows 1 [[iv c]], .rows 3 [[.view true 0 [], .view true 0 [], iv 0]], .rows 1 [[iv (s.nAdd p c)]]]
    (by simp) rfl (by simp) (by simp [Blk.ren, AV.ren]) (by simp [AV.ren, S.av, renL, pi]) (by simp [AV.ren, S.av, renL]) (by simp [patch, setMany, Blk.ren, AV.ren])) ?_
  simp only [go_sem, Nat.reduceAdd, Nat.reduceSub, Nat.reduceMul, Nat.reduceEqDiff, Nat.reduceLeDiff, Nat.reduceLT, ↓reduceIte, Int.reduceToNat, reduceCtorEq, S.av]
  refine draw [.qu 0 0, .rd 0 1, .qu 0 1, .mn 0, .qu 1 1, .qu 1 1] (by kernel_rfl) (by kernel_rfl) ?_
  simp only [go_sem, Nat.reduceAdd, Nat.reduceSub, Nat.reduceMul, Nat.reduceEqDiff, Nat.reduceLeDiff, Nat.reduceLT, ↓reduceIte, Int.reduceToNat, reduceCtorEq, S.av]
  exact .gc 0 (Nat.le_refl _) (Nat.zero_le _) (by simp [Out.lt, AV.lt, ltL]) (by simp) (.done ⟨rfl, rfl⟩)
theorem Check_c (s : S) : ACalls Try.prog 16 [s.av] [] (fun o H => o = .ret (iv (if s.valid = true then 0 else 50)) ∧ H = []) := by
  refine ACalls.up ?_
  refine ACalls.intro (cs := []) (n := 6) Try.func16 rfl rfl rfl (by kernel_rfl) rfl ?_
  simp only [go_sem, Nat.reduceAdd, Nat.reduceSub, Nat.reduceMul, Nat.reduceEqDiff, Nat.reduceLeDiff, Nat.reduceLT, ↓reduceIte, Int.reduceToNat, reduceCtorEq, S.av]
  refine rK_use (enters_of Try.func51 rfl (by decide)) (ACalls.pure_use (valid_c s) rfl rfl) ?_
  cases s.valid <;> simp only [go_sem, Nat.reduceAdd, Nat.reduceSub, Nat.reduceMul, Nat.reduceEqDiff, Nat.reduceLeDiff, Nat.reduceLT, ↓reduceIte, Int.reduceToNat, reduceCtorEq]
  · exact .gc 0 (Nat.le_refl _) (Nat.zero_le _) (by simp [Out.lt, AV.lt, ltL]) (by simp) (.done ⟨by simp, rfl⟩)
  · exact .gc 0 (Nat.le_refl _) (Nat.zero_le _) (by simp [Out.lt, AV.lt, ltL]) (by simp) (.done ⟨by simp, rfl⟩)
end Go.Proofs.Ytljepmbikbdicaa

set_option maxRecDepth 100000
set_option linter.unusedVariables false
set_option linter.unusedSimpArgs false
namespace Go.Proofs.Ytljepmbikbdicaa
open Go.AM
def S.new (n : Nat) (q : Int) : S := ⟨List.replicate n ⟨-1, 0, []⟩, [], q⟩
def okNew (n q : Int) : Prop := 1 ≤ n ∧ n ≤ 4 ∧ 1 ≤ q ∧ q ≤ 20
instance (n q : Int) : Decidable (okNew n q) := by unfold okNew; infer_instance
def newRow : List AV := [iv (-1), iv 0, .view true 0 []]
def newHp (q : Int) : Nat → Heap
  | 0 => [.rows 3 [[.view true 0 [], .view true 0 [], iv 0]], .rows 3 [[.view true 0 [], .view true 0 [], iv q]]]
  | 1 => [.rows 3 [[.view true 0 [], .view true 0 [], iv 0]], .rows 3 [[.sl 3 0 1 none, .view true 0 [], iv q]], .dead, .rows 3 [newRow]]
  | 2 => [.rows 3 [[.view true 0 [], .view true 0 [], iv 0]], .rows 3 [[.sl 5 0 2 none, .view true 0 [], iv q]], .dead, .dead, .dead, .rows 3 [newRow, newRow]]
  | 3 => [.rows 3 [[.view true 0 [], .view true 0 [], iv 0]], .rows 3 [[.sl 7 0 3 none, .view true 0 [], iv q]], .dead, .dead, .dead, .dead, .dead, .rows 3 [newRow, newRow, newRow]]
  | _ => [.rows 3 [[.view true 0 [], .view true 0 [], iv 0]], .rows 3 [[.sl 9 0 4 none, .view true 0 [], iv q]], .dead, .dead, .dead, .dead, .dead, .dead, .dead, .rows 3 [newRow, newRow, newRow, newRow]]
theorem New_c (n q : Int) : ACalls Try.prog 29 [iv n, iv q] [] (fun o H => o = .ret (if okNew n q then .tuple [(S.new n.toNat q).av, iv 0] else .tuple [S.zero.av, iv 1]) ∧ H = []) := by
  refine ACalls.up ?_
  refine ACalls.intro (cs := []) (n := 35) Try.func29 rfl rfl rfl (by kernel_rfl) rfl ?_
  generalize hpost : (fun (o : Out) (H : Heap) => o = Out.ret (if okNew n q then .tuple [(S.new n.toNat q).av, iv 0] else .tuple [S.zero.av, iv 1]) ∧ H = []) = post
  have bad : ∀ H, ¬ okNew n q → Up 0 post (.ret (.tuple [.agg [.view true 0 [], .view true 0 [], iv 0], iv 1])) H := fun H h => by
    rw [← hpost]
    exact .gc 0 (Nat.le_refl _) (Nat.zero_le _) (by simp [Out.lt, AV.lt, ltL]) (by simp) (.le (.ret (.tuple (.cons zero_le (.cons (.refl _) .nil)))) (LeH.refl _) (.done ⟨by rw [if_neg h], by simp⟩))
  simp only [go_sem, Nat.reduceAdd, Nat.reduceSub, Nat.reduceMul, Nat.reduceEqDiff, Nat.reduceLeDiff, Nat.reduceLT, ↓reduceIte, Int.reduceToNat, reduceCtorEq]
  refine gD_dec (fun hg => ?_) (fun hg => ?_) <;> simp only [go_sem, Nat.reduceAdd, Nat.reduceSub, Nat.reduceMul, Nat.reduceEqDiff, Nat.reduceLeDiff, Nat.reduceLT, ↓reduceIte, Int.reduceToNat, reduceCtorEq, hg]
  · exact bad _ (by unfold okNew; omega)
  refine gD_dec (fun hg => ?_) (fun hg => ?_) <;> simp only [go_sem, Nat.reduceAdd, Nat.reduceSub, Nat.reduceMul, Nat.reduceEqDiff, Nat.reduceLeDiff, Nat.reduceLT, ↓reduceIte, Int.reduceToNat, reduceCtorEq, hg]
  · exact bad _ (by unfold okNew; omega)
  refine gD_dec (fun hg => ?_) (fun hg => ?_) <;> simp only [go_sem, Nat.reduceAdd, Nat.reduceSub, Nat.reduceMul, Nat.reduceEqDiff, Nat.reduceLeDiff, Nat.reduceLT, ↓reduceIte, Int.reduceToNat, reduceCtorEq, hg]
  · exact bad _ (by unfold okNew; omega)
  refine condD_dec (fun hg => ?_) (fun hg => ?_) <;> simp only [go_sem, Nat.reduceAdd, Nat.reduceSub, Nat.reduceMul, Nat.reduceEqDiff, Nat.reduceLeDiff, Nat.reduceLT, ↓reduceIte, Int.reduceToNat, reduceCtorEq, hg]
  · exact bad _ (by unfold okNew; omega)
  have hok : okNew n q := by unfold okNew; omega
  obtain ⟨m, rfl⟩ : ∃ m : Nat, n = m := ⟨n.toNat, by omega⟩
  refine loop_fam (fun i : Nat => (((Ch.nil.put 4 (.ptr 0 0 0)).put 6 (.ptr 1 0 0)).put 24 (iv m)).put 25 (iv i)) (fun i => newHp q i) (fun i => m - i) (fun i => i ≤ m) 0 (by kernel_rfl) (Nat.zero_le _) (Wk.slots' rfl (by simp [wkS, Ch.get])) ?_
  rintro i hi K hK
  have hm4 : m ≤ 4 := by omega
  simp only [go_sem, Nat.reduceAdd, Nat.reduceSub, Nat.reduceMul, Nat.reduceEqDiff, Nat.reduceLeDiff, Nat.reduceLT, ↓reduceIte, Int.reduceToNat, reduceCtorEq]
  refine condD_dec (fun hc => ?_) (fun hc => ?_)
  · have e1 : iw .i64 ((i : Int) + 1) = ((i + 1 : Nat) : Int) := by rw [iw64] <;> omega
    obtain rfl | rfl | rfl | rfl : i = 0 ∨ i = 1 ∨ i = 2 ∨ i = 3 := by omega
    · simp only [go_sem, Nat.reduceAdd, Nat.reduceSub, Nat.reduceMul, Nat.reduceEqDiff, Nat.reduceLeDiff, Nat.reduceLT, ↓reduceIte, Int.reduceToNat, reduceCtorEq, newHp, newRow, e1]
      exact hK 1 _ _ (by omega) (by omega) ((Wk.slots (by simp [wkS, Ch.get])).trans (Wk.dead 2))
    · simp only [go_sem, Nat.reduceAdd, Nat.reduceSub, Nat.reduceMul, Nat.reduceEqDiff, Nat.reduceLeDiff, Nat.reduceLT, ↓reduceIte, Int.reduceToNat, reduceCtorEq, newHp, newRow, e1]
      exact hK 2 _ _ (by omega) (by omega) ((Wk.slots (by simp [wkS, Ch.get])).trans (Wk.dead 4))
    · simp only [go_sem, Nat.reduceAdd, Nat.reduceSub, Nat.reduceMul, Nat.reduceEqDiff, Nat.reduceLeDiff, Nat.reduceLT, ↓reduceIte, Int.reduceToNat, reduceCtorEq, newHp, newRow, e1]
      exact hK 3 _ _ (by omega) (by omega) ((Wk.slots (by simp [wkS, Ch.get])).trans (Wk.dead 6))
    · simp only [go_sem, Nat.reduceAdd, Nat.reduceSub, Nat.reduceMul, Nat.reduceEqDiff, Nat.reduceLeDiff, Nat.reduceLT, ↓reduceIte, Int.reduceToNat, reduceCtorEq, newHp, newRow, e1]
      exact hK 4 _ _ (by omega) (by omega) ((Wk.slots (by simp [wkS, Ch.get])).trans (Wk.dead 8))
  · obtain rfl : i = m := by omega
    have hpure : ∀ k : Nat, ∀ row ∈ List.replicate k newRow, ∀ x ∈ row, x.pure = true := by
      intro k row hr x hx
      obtain ⟨_, rfl⟩ := List.mem_replicate.1 hr
      simp [newRow] at hx
      rcases hx with rfl | rfl | rfl <;> rfl
    have hrow : LeL newRow (Q.row ⟨-1, 0, []⟩) := .cons (.refl _) (.cons (.refl _) (.cons (.nil _ _ _ _ (by simp)) .nil))
    rw [if_pos hok] at hpost
    obtain rfl | rfl | rfl | rfl : i = 1 ∨ i = 2 ∨ i = 3 ∨ i = 4 := by omega
    · simp only [go_sem, Nat.reduceAdd, Nat.reduceSub, Nat.reduceMul, Nat.reduceEqDiff, Nat.reduceLeDiff, Nat.reduceLT, ↓reduceIte, Int.reduceToNat, reduceCtorEq, newHp]
      subst hpost
      refine Up.kill [0, 1] _ (.fz 3 3 (List.replicate 1 newRow) rfl (hpure _) (by simp [Out.fzOk, AV.fzOk, fzOkL]) (by simp [kill, Blk.fzOk]) ?_)
      refine .gc 0 (Nat.le_refl _) (Nat.zero_le _) (by simp [Out.fz, AV.fz, fzL, Out.lt, AV.lt, ltL]) (by simp) ?_
      simp only [Out.fz, AV.fz, fzL, if_true]
      exact .le (.ret (.tuple (.cons (.agg (.cons (.view _ _ _ (by simp) (.cons hrow .nil)) (.cons (.nil _ _ _ _ (by simp)) (.cons (.refl _) .nil)))) (.cons (.refl _) .nil)))) (LeH.refl _) (.done ⟨rfl, rfl⟩)
    · simp only [go_sem, Nat.reduceAdd, Nat.reduceSub, Nat.reduceMul, Nat.reduceEqDiff, Nat.reduceLeDiff, Nat.reduceLT, ↓reduceIte, Int.reduceToNat, reduceCtorEq, newHp]
      subst hpost
      refine Up.kill [0, 1] _ (.fz 5 3 (List.replicate 2 newRow) rfl (hpure _) (by simp [Out.fzOk, AV.fzOk, fzOkL]) (by simp [kill, Blk.fzOk]) ?_)
      refine .gc 0 (Nat.le_refl _) (Nat.zero_le _) (by simp [Out.fz, AV.fz, fzL, Out.lt, AV.lt, ltL]) (by simp) ?_
      simp only [Out.fz, AV.fz, fzL, if_true]
      exact .le (.ret (.tuple (.cons (.agg (.cons (.view _ _ _ (by simp) (.cons hrow (.cons hrow .nil))) (.cons (.nil _ _ _ _ (by simp)) (.cons (.refl _) .nil)))) (.cons (.refl _) .nil)))) (LeH.refl _) (.done ⟨rfl, rfl⟩)
    · simp only [go_sem, Nat.reduceAdd, Nat.reduceSub, Nat.reduceMul, Nat.reduceEqDiff, Nat.reduceLeDiff, Nat.reduceLT, ↓reduceIte, Int.reduceToNat, reduceCtorEq, newHp]
      subst hpost
      refine Up.kill [0, 1] _ (.fz 7 3 (List.replicate 3 newRow) rfl (hpure _) (by simp [Out.fzOk, AV.fzOk, fzOkL]) (by simp [kill, Blk.fzOk]) ?_)
      refine .gc 0 (Nat.le_refl _) (Nat.zero_le _) (by simp [Out.fz, AV.fz, fzL, Out.lt, AV.lt, ltL]) (by simp) ?_
      simp only [Out.fz, AV.fz, fzL, if_true]
      exact .le (.ret (.tuple (.cons (.agg (.cons (.view _ _ _ (by simp) (.cons hrow (.cons hrow (.cons hrow .nil)))) (.cons (.nil _ _ _ _ (by simp)) (.cons (.refl _) .nil)))) (.cons (.refl _) .nil)))) (LeH.refl _) (.done ⟨rfl, rfl⟩)
    · simp only [go_sem, Nat.reduceAdd, Nat.reduceSub, Nat.reduceMul, Nat.reduceEqDiff, Nat.reduceLeDiff, Nat.reduceLT, ↓reduceIte, Int.reduceToNat, reduceCtorEq, newHp]
      subst hpost
      refine Up.kill [0, 1] _ (.fz 9 3 (List.replicate 4 newRow) rfl (hpure _) (by simp [Out.fzOk, AV.fzOk, fzOkL]) (by simp [kill, Blk.fzOk]) ?_)
      refine .gc 0 (Nat.le_refl _) (Nat.zero_le _) (by simp [Out.fz, AV.fz, fzL, Out.lt, AV.lt, ltL]) (by simp) ?_
      simp only [Out.fz, AV.fz, fzL, if_true]
      exact .le (.ret (.tuple (.cons (.agg (.cons (.view _ _ _ (by simp) (.cons hrow (.cons hrow (.cons hrow (.cons hrow .nil))))) (.cons (.nil _ _ _ _ (by simp)) (.cons (.refl _) .nil)))) (.cons (.refl _) .nil)))) (LeH.refl _) (.done ⟨rfl, rfl⟩)
end Go.Proofs.Ytljepmbikbdicaa

set_option maxRecDepth 100000
set_option linter.unusedVariables false
set_option linter.unusedSimpArgs false
namespace Go.Proofs.Ytljepmbikbdicaa
open Go.AM
theorem ready_c (s : S) (q : Q) (full : Bool) (hs : s.cpus = [q]) : ACalls Try.prog 44 [s.av, iv q.run, .view full 1 (q.ready.map r1)] [] (fun o H => o = .ret (.bool true) ∧ H = []) := by
  obtain ⟨run, left, rd⟩ := q
  refine ACalls.small fun hsm => ?_
  simp only [S.av, smallL, AV.small, List.length_map, maxLen] at hsm
  refine ACalls.up ?_
  refine ACalls.intro (cs := []) (n := 51) Try.func44 rfl rfl rfl (by kernel_rfl) rfl ?_
  simp only [go_sem, Nat.reduceAdd, Nat.reduceSub, Nat.reduceMul, Nat.reduceEqDiff, Nat.reduceLeDiff, Nat.reduceLT, ↓reduceIte, Int.reduceToNat, reduceCtorEq, Int.cast_ofNat_Int, Int.reduceLT, Int.reduceLE, Int.reduceGT, Int.reduceGE, Int.reduceEq, Int.reduceNe, Int.reduceNeg, Int.reduceAdd, Int.reduceSub, Int.le_refl, S.av, hs, Q.row, List.length_map]
  refine loop_fam (fun i : Nat => ((Ch.nil.put 3 (.ptr 0 0 0)).put 2 (.view full 1 (rd.map r1))).put 7 (iv i)) (fun _ => [.rows 3 [[.view false 3 [Q.row ⟨run, left, rd⟩], .view false 3 (s.thr.map T.row), iv s.quantum]]]) (fun i => rd.length - i) (fun i => i ≤ rd.length) 0 (by kernel_rfl) (Nat.zero_le _) (Wk.slots' rfl (by simp [wkS, Ch.get])) ?_
  rintro i hi K hK
  simp only [go_sem, Nat.reduceAdd, Nat.reduceSub, Nat.reduceMul, Nat.reduceEqDiff, Nat.reduceLeDiff, Nat.reduceLT, ↓reduceIte, Int.reduceToNat, reduceCtorEq, List.length_map]
  refine condD_dec (fun hc => ?_) (fun hc => ?_)
  · have hc' : i < rd.length := by omega
    obtain ⟨y, hy⟩ := at_lt hc'
    have e1 : iw .i64 ((i : Int) + 1) = ((i + 1 : Nat) : Int) := by rw [iw64] <;> omega
    simp only [go_sem, Nat.reduceAdd, Nat.reduceSub, Nat.reduceMul, Nat.reduceEqDiff, Nat.reduceLeDiff, Nat.reduceLT, ↓reduceIte, Int.reduceToNat, reduceCtorEq]
    refine draw [.qu 0 0, .qu 0 0, .qu 0 0, .qu 0 0, .qu 0 0, .qu 0 0, .qu 0 0, .qu 0 0, .qu 0 0, .qu 0 0, .qu 0 0, .qu 0 0, .qu 0 0] (by kernel_rfl) (by kernel_rfl) ?_
    simp only [go_sem, Nat.reduceAdd, Nat.reduceSub, Nat.reduceMul, Nat.reduceEqDiff, Nat.reduceLeDiff, Nat.reduceLT, ↓reduceIte, Int.reduceToNat, reduceCtorEq, Int.cast_ofNat_Int, Int.reduceLT, Int.reduceLE, Int.reduceGT, Int.reduceGE, Int.reduceEq, Int.reduceNe, Int.reduceNeg, Int.reduceAdd, Int.reduceSub, Int.le_refl, List.length_map, List.getElem?_map, hy, hc, hc', Int.natCast_nonneg, Q.row, e1]
    refine hK (i + 1) _ _ hc' (by omega) (Wk.slots' rfl (by simp [wkS, Ch.get]))
  · simp only [go_sem, Nat.reduceAdd, Nat.reduceSub, Nat.reduceMul, Nat.reduceEqDiff, Nat.reduceLeDiff, Nat.reduceLT, ↓reduceIte, Int.reduceToNat, reduceCtorEq]
    exact .gc 0 (Nat.le_refl _) (Nat.zero_le _) rfl (by simp) (.done ⟨rfl, rfl⟩)
theorem ready_u (s : S) (run left : Int) (l : List Int) (cap : Option Nat) (hs : s.cpus = [⟨run, left, l⟩]) (A : Heap) (hA : ∀ b ∈ A, b.lt 0) (r n : Nat) (hr : r = A.length) (hn : n = l.length) :
    ACalls Try.prog 44 [s.av, iv run, .sl r 0 n cap] (A ++ [.rows 1 (l.map r1)]) (fun o H => o = .ret (.bool true) ∧ H = A ++ [.dead]) := by
  subst hr hn
  have hset : (A ++ [Blk.rows 1 (l.map r1)]).set A.length .dead = A ++ [.dead] := by simp
  refine ACalls.pre_fz (sz := 1) (xs := l.map r1) A.length (by simp) (r1_pure l) ?_ ?_ ?_
  · simp [fzOkL, AV.fzOk, S.av]
  · rw [hset]
    intro b hb
    simp only [List.mem_append, List.mem_singleton] at hb
    rcases hb with hb | rfl
    · exact bok0 (hA b hb)
    · trivial
  · have hh : ((A ++ [Blk.rows 1 (l.map r1)]).set A.length .dead).map (Blk.fz A.length 1 (l.map r1)) = A ++ [.dead] := by
      rw [hset]
      have e1 : A.map (Blk.fz A.length 1 (l.map r1)) = A := by
        conv => rhs; rw [← List.map_id' A]
        exact List.map_congr_left fun b hb => bfz0 (hA b hb)
      simp [e1, Blk.fz]
    have ha : fzL A.length 1 (l.map r1) [s.av, iv run, .sl A.length 0 l.length cap] = [s.av, iv run, .view false 1 (l.map r1)] := by
      simp only [fzL, AV.fz, if_true, List.drop_zero, S.av]
      rw [List.take_of_length_le (by simp)]
    rw [hh, ha]
    exact ACalls.pure_use (ready_c s ⟨run, left, l⟩ false hs) (by simp [ltL, AV.lt, S.av]) rfl
/-! ### the states of the examples -/
def thrs (a b c : Int) : List T := [⟨3, 0, a⟩, ⟨3, 0, b⟩, ⟨5, 0, c⟩]
def x0 : S := ⟨[⟨-1, 0, [2, 0, 1]⟩], thrs 1 1 1, 2⟩
def y1 : S := ⟨[⟨-1, 0, [0]⟩], [⟨3, 0, 1⟩], 2⟩
def y2 : S := ⟨[⟨-1, 0, [0, 1]⟩], [⟨3, 0, 1⟩, ⟨3, 0, 1⟩], 2⟩
theorem three_c : ACalls Try.prog 43 [] [] (fun o H => o = .ret x0.av ∧ H = []) := by
  refine ACalls.up ?_
  refine ACalls.intro (cs := []) (n := 26) Try.func43 rfl rfl rfl (by kernel_rfl) rfl ?_
  simp only [go_sem, Nat.reduceAdd, Nat.reduceSub, Nat.reduceMul, Nat.reduceEqDiff, Nat.reduceLeDiff, Nat.reduceLT, ↓reduceIte, Int.reduceToNat, reduceCtorEq]
  have h0 := New_c 1 2
  rw [if_pos (by decide)] at h0
  refine rK_use (enters_of Try.func29 rfl (by decide)) (ACalls.pure_use (h0) rfl rfl) ?_
  simp only [go_sem, Nat.reduceAdd, Nat.reduceSub, Nat.reduceMul, Nat.reduceEqDiff, Nat.reduceLeDiff, Nat.reduceLT, ↓reduceIte, Int.reduceToNat, reduceCtorEq, S.av]
  have h1 := Add_c (S.new 1 2) 3 0
  rw [show (S.new 1 2).res ((S.new 1 2).eAdd 3 0) ((S.new 1 2).rAdd 3 0) = (y1, 0) from rfl] at h1
  refine rK_use (enters_of Try.func18 rfl (by decide)) (ACalls.pure_use (h1) rfl rfl) ?_
  simp only [go_sem, Nat.reduceAdd, Nat.reduceSub, Nat.reduceMul, Nat.reduceEqDiff, Nat.reduceLeDiff, Nat.reduceLT, ↓reduceIte, Int.reduceToNat, reduceCtorEq, S.av]
  have h2 := Add_c y1 3 0
  rw [show y1.res (y1.eAdd 3 0) (y1.rAdd 3 0) = (y2, 0) from rfl] at h2
  refine rK_use (enters_of Try.func18 rfl (by decide)) (ACalls.pure_use (h2) rfl rfl) ?_
  simp only [go_sem, Nat.reduceAdd, Nat.reduceSub, Nat.reduceMul, Nat.reduceEqDiff, Nat.reduceLeDiff, Nat.reduceLT, ↓reduceIte, Int.reduceToNat, reduceCtorEq, S.av]
  have h3 := Add_c y2 5 0
  rw [show y2.res (y2.eAdd 5 0) (y2.rAdd 5 0) = (x0, 0) from rfl] at h3
  refine rK_use (enters_of Try.func18 rfl (by decide)) (ACalls.pure_use (h3) rfl rfl) ?_
  simp only [go_sem, Nat.reduceAdd, Nat.reduceSub, Nat.reduceMul, Nat.reduceEqDiff, Nat.reduceLeDiff, Nat.reduceLT, ↓reduceIte, Int.reduceToNat, reduceCtorEq, S.av]
  exact .gc 0 (Nat.le_refl _) (Nat.zero_le _) rfl (by simp) (.done ⟨rfl, rfl⟩)
def x1 : S := ⟨[⟨2, 2, [0, 1]⟩], thrs 1 1 2, 2⟩
def x2 : S := ⟨[⟨2, 1, [0, 1]⟩], thrs 1 1 2, 2⟩
def x3 : S := ⟨[⟨2, 0, [0, 1]⟩], thrs 1 1 2, 2⟩
def x5 : S := ⟨[⟨-1, 0, [0, 1]⟩], thrs 1 1 3, 2⟩
def x6 : S := ⟨[⟨0, 2, [1]⟩], thrs 2 1 3, 2⟩
def x7 : S := ⟨[⟨0, 1, [1]⟩], thrs 2 1 3, 2⟩
def x8 : S := ⟨[⟨0, 0, [1]⟩], thrs 2 1 3, 2⟩
def x9 : S := ⟨[⟨1, 2, [0]⟩], thrs 1 2 3, 2⟩
def x10 : S := ⟨[⟨1, 1, [0]⟩], thrs 1 2 3, 2⟩
def x11 : S := ⟨[⟨1, 1, [2, 0]⟩], thrs 1 2 1, 2⟩
def x12 : S := ⟨[⟨2, 2, [1, 0]⟩], thrs 1 1 2, 2⟩
theorem Switch_i {s s' : S} {n e r : Int} (h1 : s.res ((s.cp n).map fun _ => s.sw n.toNat) 52 = (s', e)) (h2 : (if s.valid = true then if (s.cp n).isSome then (s.sw n.toNat).runOf n.toNat else 0 else 0) = r) : ACalls Try.prog 14 [s.av, iv n] [] (fun o H => o = .ret (.tuple [s'.av, iv r, iv e]) ∧ H = []) := by
  have h := Switch_c s n
  rw [h1, h2] at h
  exact h
theorem Tick_i {s s' : S} {n e : Int} {r : Bool} (h1 : s.res ((s.cp n).map fun _ => s.tick n.toNat) 52 = (s', e)) (h2 : (if s.valid = true then (s.cp n).isSome && (s.tick n.toNat).due n.toNat else false) = r) : ACalls Try.prog 17 [s.av, iv n] [] (fun o H => o = .ret (.tuple [s'.av, .bool r, iv e]) ∧ H = []) := by
  have h := Tick_c s n
  rw [h1, h2] at h
  exact h
theorem Wake_i {s s' : S} {n e : Int} {r : Bool} (h1 : s.res (s.eWake n) 51 = (s', e)) (h2 : (if s.valid = true then s.dWake n else false) = r) : ACalls Try.prog 21 [s.av, iv n] [] (fun o H => o = .ret (.tuple [s'.av, .bool r, iv e]) ∧ H = []) := by
  have h := Wake_c s n
  rw [h1, h2] at h
  exact h
theorem Block_i {s s' : S} {n e : Int} (h1 : s.res (s.eBlock n) 51 = (s', e)) : ACalls Try.prog 20 [s.av, iv n] [] (fun o H => o = .ret (.tuple [s'.av, iv e]) ∧ H = []) := by
  have h := Block_c s n
  rw [h1] at h
  exact h
theorem Due_i {s : S} {n : Int} {r : Bool} (h1 : s.rDue n = r) : ACalls Try.prog 15 [s.av, iv n] [] (fun o H => o = .ret (.bool r) ∧ H = []) := h1 ▸ Due_c s n
theorem Check_i {s : S} {b : Bool} (h1 : s.valid = b) : ACalls Try.prog 16 [s.av] [] (fun o H => o = .ret (iv (if b = true then 0 else 50)) ∧ H = []) := h1 ▸ Check_c s
theorem box_lt (s : S) : ∀ b ∈ [Blk.rows 3 [[.view false 3 (s.cpus.map Q.row), .view false 3 (s.thr.map T.row), iv s.quantum]]], b.lt 0 := by simp [Blk.lt, ltL, AV.lt]
theorem box_lt1 (s : S) : ∀ b ∈ [Blk.rows 3 [[.view false 3 (s.cpus.map Q.row), .view false 3 (s.thr.map T.row), iv s.quantum]], .dead], b.lt 0 := by simp [Blk.lt, ltL, AV.lt]
theorem box_lt2 (s : S) : ∀ b ∈ [Blk.rows 3 [[.view false 3 (s.cpus.map Q.row), .view false 3 (s.thr.map T.row), iv s.quantum]], .dead, .dead], b.lt 0 := by simp [Blk.lt, ltL, AV.lt]
theorem sane_c : ACalls Try.prog 13 [] [] (fun o H => o = .ret (.bool true) ∧ H = []) := by
  refine ACalls.up ?_
  refine ACalls.intro (cs := []) (n := 162) Try.func13 rfl rfl rfl (by kernel_rfl) rfl ?_
  simp only [go_sem, Nat.reduceAdd, Nat.reduceSub, Nat.reduceMul, Nat.reduceEqDiff, Nat.reduceLeDiff, Nat.reduceLT, ↓reduceIte, Int.reduceToNat, reduceCtorEq]
  refine rK_use (enters_of Try.func43 rfl (by decide)) (ACalls.pure_use (three_c) rfl rfl) ?_
  simp only [go_sem, Nat.reduceAdd, Nat.reduceSub, Nat.reduceMul, Nat.reduceEqDiff, Nat.reduceLeDiff, Nat.reduceLT, ↓reduceIte, Int.reduceToNat, reduceCtorEq, S.av]
  refine rK_use (enters_of Try.func15 rfl (by decide)) (ACalls.pure_use (Due_i (s := x0) (n := 0) (r := true) rfl) rfl rfl) ?_
  simp only [go_sem, Nat.reduceAdd, Nat.reduceSub, Nat.reduceMul, Nat.reduceEqDiff, Nat.reduceLeDiff, Nat.reduceLT, ↓reduceIte, Int.reduceToNat, reduceCtorEq]
  refine rK_use (enters_of Try.func14 rfl (by decide)) (ACalls.pure_use (Switch_i (s := x0) (n := 0) (s' := x1) (e := 0) (r := 2) rfl rfl) rfl rfl) ?_
  simp only [go_sem, Nat.reduceAdd, Nat.reduceSub, Nat.reduceMul, Nat.reduceEqDiff, Nat.reduceLeDiff, Nat.reduceLT, ↓reduceIte, Int.reduceToNat, reduceCtorEq, Int.cast_ofNat_Int, Int.reduceLT, Int.reduceLE, Int.reduceGT, Int.reduceGE, Int.reduceEq, Int.reduceNe, Int.reduceNeg, Int.reduceAdd, Int.reduceSub, Int.le_refl, S.av]
  refine rK_use (enters_of Try.func44 rfl (by decide)) (ready_u x1 2 2 [0, 1] _ rfl [.rows 3 [[.view false 3 (x1.cpus.map Q.row), .view false 3 (x1.thr.map T.row), iv x1.quantum]]] (box_lt x1) 1 2 rfl rfl) ?_
  simp only [go_sem, Nat.reduceAdd, Nat.reduceSub, Nat.reduceMul, Nat.reduceEqDiff, Nat.reduceLeDiff, Nat.reduceLT, ↓reduceIte, Int.reduceToNat, reduceCtorEq, Int.cast_ofNat_Int, Int.reduceLT, Int.reduceLE, Int.reduceGT, Int.reduceGE, Int.reduceEq, Int.reduceNe, Int.reduceNeg, Int.reduceAdd, Int.reduceSub, Int.le_refl]
  refine rK_use (enters_of Try.func17 rfl (by decide)) (ACalls.pure_use (Tick_i (s := x1) (n := 0) (s' := x2) (e := 0) (r := false) rfl rfl) rfl rfl) ?_
  simp only [go_sem, Nat.reduceAdd, Nat.reduceSub, Nat.reduceMul, Nat.reduceEqDiff, Nat.reduceLeDiff, Nat.reduceLT, ↓reduceIte, Int.reduceToNat, reduceCtorEq, Int.cast_ofNat_Int, Int.reduceLT, Int.reduceLE, Int.reduceGT, Int.reduceGE, Int.reduceEq, Int.reduceNe, Int.reduceNeg, Int.reduceAdd, Int.reduceSub, Int.le_refl, S.av]
  refine rK_use (enters_of Try.func17 rfl (by decide)) (ACalls.pure_use (Tick_i (s := x2) (n := 0) (s' := x3) (e := 0) (r := false) rfl rfl) rfl rfl) ?_
  simp only [go_sem, Nat.reduceAdd, Nat.reduceSub, Nat.reduceMul, Nat.reduceEqDiff, Nat.reduceLeDiff, Nat.reduceLT, ↓reduceIte, Int.reduceToNat, reduceCtorEq, Int.cast_ofNat_Int, Int.reduceLT, Int.reduceLE, Int.reduceGT, Int.reduceGE, Int.reduceEq, Int.reduceNe, Int.reduceNeg, Int.reduceAdd, Int.reduceSub, Int.le_refl, S.av]
  refine rK_use (enters_of Try.func14 rfl (by decide)) (ACalls.pure_use (Switch_i (s := x3) (n := 0) (s' := x1) (e := 0) (r := 2) rfl rfl) rfl rfl) ?_
  simp only [go_sem, Nat.reduceAdd, Nat.reduceSub, Nat.reduceMul, Nat.reduceEqDiff, Nat.reduceLeDiff, Nat.reduceLT, ↓reduceIte, Int.reduceToNat, reduceCtorEq, Int.cast_ofNat_Int, Int.reduceLT, Int.reduceLE, Int.reduceGT, Int.reduceGE, Int.reduceEq, Int.reduceNe, Int.reduceNeg, Int.reduceAdd, Int.reduceSub, Int.le_refl, S.av]
  refine rK_use (enters_of Try.func20 rfl (by decide)) (ACalls.pure_use (Block_i (s := x1) (n := 2) (s' := x5) (e := 0) rfl) rfl rfl) ?_
  simp only [go_sem, Nat.reduceAdd, Nat.reduceSub, Nat.reduceMul, Nat.reduceEqDiff, Nat.reduceLeDiff, Nat.reduceLT, ↓reduceIte, Int.reduceToNat, reduceCtorEq, Int.cast_ofNat_Int, Int.reduceLT, Int.reduceLE, Int.reduceGT, Int.reduceGE, Int.reduceEq, Int.reduceNe, Int.reduceNeg, Int.reduceAdd, Int.reduceSub, Int.le_refl, S.av]
  refine rK_use (enters_of Try.func14 rfl (by decide)) (ACalls.pure_use (Switch_i (s := x5) (n := 0) (s' := x6) (e := 0) (r := 0) rfl rfl) rfl rfl) ?_
  simp only [go_sem, Nat.reduceAdd, Nat.reduceSub, Nat.reduceMul, Nat.reduceEqDiff, Nat.reduceLeDiff, Nat.reduceLT, ↓reduceIte, Int.reduceToNat, reduceCtorEq, Int.cast_ofNat_Int, Int.reduceLT, Int.reduceLE, Int.reduceGT, Int.reduceGE, Int.reduceEq, Int.reduceNe, Int.reduceNeg, Int.reduceAdd, Int.reduceSub, Int.le_refl, S.av]
  refine rK_use (enters_of Try.func44 rfl (by decide)) (ready_u x6 0 2 [1] _ rfl [.rows 3 [[.view false 3 (x6.cpus.map Q.row), .view false 3 (x6.thr.map T.row), iv x6.quantum]], .dead] (box_lt1 x6) 2 1 rfl rfl) ?_
  simp only [go_sem, Nat.reduceAdd, Nat.reduceSub, Nat.reduceMul, Nat.reduceEqDiff, Nat.reduceLeDiff, Nat.reduceLT, ↓reduceIte, Int.reduceToNat, reduceCtorEq, Int.cast_ofNat_Int, Int.reduceLT, Int.reduceLE, Int.reduceGT, Int.reduceGE, Int.reduceEq, Int.reduceNe, Int.reduceNeg, Int.reduceAdd, Int.reduceSub, Int.le_refl]
  refine rK_use (enters_of Try.func17 rfl (by decide)) (ACalls.pure_use (Tick_i (s := x6) (n := 0) (s' := x7) (e := 0) (r := false) rfl rfl) rfl rfl) ?_
  simp only [go_sem, Nat.reduceAdd, Nat.reduceSub, Nat.reduceMul, Nat.reduceEqDiff, Nat.reduceLeDiff, Nat.reduceLT, ↓reduceIte, Int.reduceToNat, reduceCtorEq, Int.cast_ofNat_Int, Int.reduceLT, Int.reduceLE, Int.reduceGT, Int.reduceGE, Int.reduceEq, Int.reduceNe, Int.reduceNeg, Int.reduceAdd, Int.reduceSub, Int.le_refl, S.av]
  refine rK_use (enters_of Try.func17 rfl (by decide)) (ACalls.pure_use (Tick_i (s := x7) (n := 0) (s' := x8) (e := 0) (r := true) rfl rfl) rfl rfl) ?_
  simp only [go_sem, Nat.reduceAdd, Nat.reduceSub, Nat.reduceMul, Nat.reduceEqDiff, Nat.reduceLeDiff, Nat.reduceLT, ↓reduceIte, Int.reduceToNat, reduceCtorEq, Int.cast_ofNat_Int, Int.reduceLT, Int.reduceLE, Int.reduceGT, Int.reduceGE, Int.reduceEq, Int.reduceNe, Int.reduceNeg, Int.reduceAdd, Int.reduceSub, Int.le_refl, S.av]
  refine rK_use (enters_of Try.func14 rfl (by decide)) (ACalls.pure_use (Switch_i (s := x8) (n := 0) (s' := x9) (e := 0) (r := 1) rfl rfl) rfl rfl) ?_
  simp only [go_sem, Nat.reduceAdd, Nat.reduceSub, Nat.reduceMul, Nat.reduceEqDiff, Nat.reduceLeDiff, Nat.reduceLT, ↓reduceIte, Int.reduceToNat, reduceCtorEq, Int.cast_ofNat_Int, Int.reduceLT, Int.reduceLE, Int.reduceGT, Int.reduceGE, Int.reduceEq, Int.reduceNe, Int.reduceNeg, Int.reduceAdd, Int.reduceSub, Int.le_refl, S.av]
  refine rK_use (enters_of Try.func17 rfl (by decide)) (ACalls.pure_use (Tick_i (s := x9) (n := 0) (s' := x10) (e := 0) (r := false) rfl rfl) rfl rfl) ?_
  simp only [go_sem, Nat.reduceAdd, Nat.reduceSub, Nat.reduceMul, Nat.reduceEqDiff, Nat.reduceLeDiff, Nat.reduceLT, ↓reduceIte, Int.reduceToNat, reduceCtorEq, Int.cast_ofNat_Int, Int.reduceLT, Int.reduceLE, Int.reduceGT, Int.reduceGE, Int.reduceEq, Int.reduceNe, Int.reduceNeg, Int.reduceAdd, Int.reduceSub, Int.le_refl, S.av]
  refine rK_use (enters_of Try.func21 rfl (by decide)) (ACalls.pure_use (Wake_i (s := x10) (n := 2) (s' := x11) (e := 0) (r := true) rfl rfl) rfl rfl) ?_
  simp only [go_sem, Nat.reduceAdd, Nat.reduceSub, Nat.reduceMul, Nat.reduceEqDiff, Nat.reduceLeDiff, Nat.reduceLT, ↓reduceIte, Int.reduceToNat, reduceCtorEq, Int.cast_ofNat_Int, Int.reduceLT, Int.reduceLE, Int.reduceGT, Int.reduceGE, Int.reduceEq, Int.reduceNe, Int.reduceNeg, Int.reduceAdd, Int.reduceSub, Int.le_refl, S.av]
  refine rK_use (enters_of Try.func14 rfl (by decide)) (ACalls.pure_use (Switch_i (s := x11) (n := 0) (s' := x12) (e := 0) (r := 2) rfl rfl) rfl rfl) ?_
  simp only [go_sem, Nat.reduceAdd, Nat.reduceSub, Nat.reduceMul, Nat.reduceEqDiff, Nat.reduceLeDiff, Nat.reduceLT, ↓reduceIte, Int.reduceToNat, reduceCtorEq, Int.cast_ofNat_Int, Int.reduceLT, Int.reduceLE, Int.reduceGT, Int.reduceGE, Int.reduceEq, Int.reduceNe, Int.reduceNeg, Int.reduceAdd, Int.reduceSub, Int.le_refl, S.av]
  refine rK_use (enters_of Try.func44 rfl (by decide)) (ready_u x12 2 2 [1, 0] _ rfl [.rows 3 [[.view false 3 (x12.cpus.map Q.row), .view false 3 (x12.thr.map T.row), iv x12.quantum]], .dead, .dead] (box_lt2 x12) 3 2 rfl rfl) ?_
  simp only [go_sem, Nat.reduceAdd, Nat.reduceSub, Nat.reduceMul, Nat.reduceEqDiff, Nat.reduceLeDiff, Nat.reduceLT, ↓reduceIte, Int.reduceToNat, reduceCtorEq, Int.cast_ofNat_Int, Int.reduceLT, Int.reduceLE, Int.reduceGT, Int.reduceGE, Int.reduceEq, Int.reduceNe, Int.reduceNeg, Int.reduceAdd, Int.reduceSub, Int.le_refl]
  refine rK_use (enters_of Try.func16 rfl (by decide)) (ACalls.pure_use (Check_i (s := x12) (b := true) rfl) rfl rfl) ?_
  simp only [go_sem, Nat.reduceAdd, Nat.reduceSub, Nat.reduceMul, Nat.reduceEqDiff, Nat.reduceLeDiff, Nat.reduceLT, ↓reduceIte, Int.reduceToNat, reduceCtorEq, Int.cast_ofNat_Int, Int.reduceLT, Int.reduceLE, Int.reduceGT, Int.reduceGE, Int.reduceEq, Int.reduceNe, Int.reduceNeg, Int.reduceAdd, Int.reduceSub, Int.le_refl]
  exact .gc 0 (Nat.le_refl _) (Nat.zero_le _) rfl (by simp) (.done ⟨rfl, rfl⟩)
end Go.Proofs.Ytljepmbikbdicaa
