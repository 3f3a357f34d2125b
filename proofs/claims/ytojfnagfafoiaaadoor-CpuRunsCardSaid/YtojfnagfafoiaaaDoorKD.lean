/- Regions whose order is drawn. No condition. -/
import Derived.Test.YtojfnagfafoiaaaDoorKC
import Derived.Orders
import Derived.Recover
set_option linter.unusedVariables false
set_option linter.unusedSimpArgs false
namespace Go.AM

/-! ### what an operation looks at -/
theorem evs_congr {s s' : Ch} {xs : Array Operand} (h : ∀ x ∈ xs, cev s x = cev s' x) : evs s xs = evs s' xs :=
  List.map_congr_left fun x hx => h x (by simpa using hx)
theorem evParts_congr {s s' : Ch} {ps : Array (Nat × Operand)} (h : ∀ x ∈ ps.map (·.2), cev s x = cev s' x) : evParts s ps = evParts s' ps :=
  List.map_congr_left fun p hp => by
    rw [h p.2 (Array.mem_map.2 ⟨p, by simpa using hp, rfl⟩)]
theorem evParts_congr' {s s' : Ch} {ps : Array (Nat × Operand)} {l : Array Operand} (hl : l = ps.map (·.2)) (h : ∀ x ∈ l, cev s x = cev s' x) : evParts s ps = evParts s' ps := evParts_congr (hl ▸ h)
theorem opt_congr {s s' : Ch} {x : Option Operand} (h : ∀ y, x = some y → cev s y = cev s' y) : x.map (cev s) = x.map (cev s') := by
  cases x with
  | none => rfl
  | some y => simp [h y rfl]
theorem aBinO_congr {P : Program} {s s' : Ch} {op : BinOp} {t : TypeId} {x y : Operand} (h1 : cev s x = cev s' x) (h2 : cev s y = cev s' y) : aBinO P op t y (cev s x) (cev s y) = aBinO P op t y (cev s' x) (cev s' y) := by rw [h1, h2]
theorem aop_congr {P : Program} {s s' : Ch} {H : Heap} {op : Op} (h : ∀ x ∈ op.operands, cev s x = cev s' x) : aop P s H op = aop P s' H op := by
  cases op <;> simp only [Op.operands] at h <;> simp only [aop]
  case build t ps => rw [evParts_congr (ps := ps) (fun x hx => h x (by simpa using hx))]
  case buildSlice t n ps => rw [evParts_congr (ps := ps) (fun x hx => h x (by simpa using hx))]
  case makeFunc fn first captured => rw [evs_congr (xs := first) fun x hx => h x (by simp [hx]), evs_congr (xs := captured) fun x hx => h x (by simp [hx])]
  case call c =>
    obtain ⟨callee, args, ts⟩ := c
    cases callee with
    | value f => simp only; rw [h f (by simp [Call.operands]), evs_congr (xs := args) fun x hx => h x (by simp [Call.operands, hx])]
    | builtin b => simp only; rw [evs_congr (xs := args) fun x hx => h x (by simp [Call.operands, hx])]
    | invoke r m => rfl
  case makeMap t r => rw [opt_congr (x := r) fun y e => h y (by simp [e])]
  case slice t x lo hi mx =>
    rw [h x (by simp), opt_congr (x := lo) fun y e => h y (by simp [e]), opt_congr (x := hi) fun y e => h y (by simp [e]), opt_congr (x := mx) fun y e => h y (by simp [e])]
  all_goals (first | rfl | (simp_all; done))

/-- An operation that doesn't look at the heap. -/
def opFree : Op → Bool
  | .move _ | .assign _ | .pick .. | .build .. | .nilCheck _ | .binOp .. | .unOp .. | .convert .. | .makeInterface .. | .makeFunc .. | .fieldAddr .. | .field .. | .index .. | .typeAssert .. | .extract .. => true
  | .call ⟨.value _, _, _⟩ => true
  | .call ⟨.builtin .len, _, _⟩ | .call ⟨.builtin .max, _, _⟩ | .call ⟨.builtin .min, _, _⟩ => true
  | _ => false
theorem opFree_heap {P : Program} {s : Ch} {op : Op} (h : opFree op = true) (H H' : Heap) : aop P s H op = aop P s H' op := by
  cases op <;> first | rfl | (simp [opFree] at h; done) | skip
  case call c =>
    obtain ⟨callee, args, ts⟩ := c
    cases callee with
    | value f => rfl
    | invoke r m => rfl
    | builtin b => cases b <;> first | rfl | simp [opFree] at h

/-! ### what an operation comes to -/
/-- A value, and nothing else. -/
def AR.yields (P : Program) (H : Heap) : AR → AV → Prop
  | .val u, v => u = v
  | .chk p r, v => p ∧ r.yields P H v
  | .call f args, v => Enters P f ∧ ACalls P f args H fun o H2 => o = .ret v ∧ H2 = H
  | _, _ => False
/-- One value, one heap. -/
def AR.steps (P : Program) (H : Heap) (v : AV) (H' : Heap) : AR → Prop
  | .val u => u = v ∧ H = H'
  | .chk p r => p ∧ r.steps P H v H'
  | .alloc b f => f H.length = v ∧ H ++ [b] = H'
  | .upd H2 u => u = v ∧ H2 = H'
  | .call f args => Enters P f ∧ ACalls P f args H fun o H2 => o = .ret v ∧ H2 = H'
  | _ => False
theorem AR.yields_k {P : Program} {H : Heap} {v : AV} {X : AV → Heap → Prop} : ∀ {r : AR}, r.yields P H v → r.k P H (fun u H2 => u = v ∧ H2 = H) X
  | .val u, h => ⟨h, rfl⟩
  | .chk p r, h => ⟨h.1, AR.yields_k h.2⟩
  | .call f args, h => ⟨h.1, h.2.mono fun o H2 ⟨e1, e2⟩ => by subst e1; exact ⟨rfl, e2⟩⟩
theorem AR.steps_k {P : Program} {H H' : Heap} {v : AV} {X : AV → Heap → Prop} : ∀ {r : AR}, r.steps P H v H' → r.k P H (fun u H2 => u = v ∧ H2 = H') X
  | .val u, h => h
  | .chk p r, h => ⟨h.1, AR.steps_k h.2⟩
  | .alloc b f, h => h
  | .upd H2 u, h => h
  | .call f args, h => ⟨h.1, h.2.mono fun o H2 ⟨e1, e2⟩ => by subst e1; exact ⟨rfl, e2⟩⟩

/-- A new empty slice. -/
def AR.nil0 : AR → Prop
  | .alloc b f => ∀ k, f k = .sl k 0 0 (some 0)
  | .chk p r => p ∧ r.nil0
  | _ => False
theorem AR.nil0_enters {P : Program} : ∀ {r : AR}, r.nil0 → r.enters P
  | .alloc _ _, _ => trivial
  | .chk p r, h => fun _ => AR.nil0_enters h.2
/-- An addition to nothing, as an operation. -/
def opMat (P : Program) (s : Ch) (op : Op) (b : Blk) (len : Nat) : Prop := match op with
  | .call ⟨.builtin .append, args, ts⟩ => match ts.toList, evs s args with
    | [t, t2], [x, y] => aMat P t t2 x y b len
    | _, _ => False
  | .alloc t => ∃ i, tinfo P t = some i ∧ i.zero.all AV.one = true ∧ i.zero.length = i.size ∧ b = .rows i.size [i.zero]
  | _ => False
/-- What such an operation hands over. -/
def mval (op : Op) (r len : Nat) : AV := match op with
  | .alloc _ => .ptr r 0 0
  | _ => .sl r 0 len none
def MatO (op : Op) (run : Result Next) (sn : Snap) (ρ : Env) (w : World) (b : Blk) (len : Nat) : Prop := ∃ cv w', run = .ok (.value cv) w' ∧
  ((∃ obj sz n, w'.heap = w.heap.push obj ∧ w'.os = w.os ∧ w'.tape = w.tape ∧ w'.output = w.output ∧ ∀ r, ρ r = none → BlkR sn (envPut ρ r ⟨w.heap.size, sz, n⟩) ⟨w.heap.size, sz, n⟩ b obj ∧ VR sn (envPut ρ r ⟨w.heap.size, sz, n⟩) (mval op r len) cv) ∨
   (w' = w ∧ ∀ r, VR sn ρ (mval op r len) cv))
theorem ofV_lt (m : Nat) (v : Value) : (AV.ofV v).lt m = true := by
  unfold AV.ofV
  split <;> rfl
theorem zero_lt {P : Program} {t : TypeId} {i : TI} (h : tinfo P t = some i) (m : Nat) : ∀ x ∈ i.zero, x.lt m = true := by
  obtain ⟨inf, d, z, h1, h2, h3, h4, h5, h6, h7⟩ := tinfo_ok h
  rw [h6]
  intro x hx
  rw [List.mem_map] at hx
  obtain ⟨v, _, rfl⟩ := hx
  exact ofV_lt m v
theorem opMat_congr {P : Program} {s s' : Ch} {op : Op} {b : Blk} {len : Nat} (h : ∀ x ∈ op.operands, cev s x = cev s' x) : opMat P s op b len = opMat P s' op b len := by
  cases op <;> try rfl
  case call c =>
    obtain ⟨callee, args, ts⟩ := c
    cases callee with
    | builtin bb =>
      cases bb <;> try rfl
      simp only [opMat]
      rw [evs_congr (xs := args) fun x hx => h x (by simp [Op.operands, Call.operands, hx])]
    | _ => rfl
theorem opMat_ok {P : Program} {sn : Snap} {ρ : Env} {n : Nat} {H : Heap} {w : World} {s : Ch} {a : Act} (hR : Rel sn ρ H w) (hs : SR sn ρ n s a.tmps) (o : Oper) {b : Blk} {len : Nat} (h : opMat P s o.op b len) : MatO o.op ((execOp a.eval o).run P w) sn ρ w b len := by
  obtain ⟨dst, op, type, pos, after, guard⟩ := o
  unfold opMat at h
  simp only at h
  split at h
  · rename_i args ts
    split at h
    · rename_i t t2 x y ht he
      obtain ⟨o, q, rfl, rfl, rfl⟩ := evs_two he
      have := arr_of ht
      subst this
      have := aMat_ok (P := P) hR (t := t) (t2 := t2) (ty := type) (cev_ok hR.gl hs o) (cev_ok hR.gl hs q) h
      have h2 : MatR ((execOp a.eval ⟨dst, .call ⟨.builtin .append, #[o, q], ([t, t2] : List TypeId).toArray⟩, type, pos, after, guard⟩).run P w) sn ρ w b len := by
        simpa [execOp, resolve, invoke, builtin] using this
      exact h2
    · exact h.elim
  · rename_i t
    obtain ⟨i, hi, h1, h2, rfl⟩ := h
    have h3 := aop_ok (P := P) hR hs ⟨dst, .alloc t, type, pos, after, guard⟩ (by simp only [aop, aAlloc, hi]; exact fun _ => trivial)
    simp only [aop, aAlloc, hi] at h3
    obtain ⟨obj, cv, w', sz, n, e1, e2, e3, e4, e5, e6, e7, e8⟩ := h3 ⟨h1, h2⟩
    refine ⟨cv, w', e1, .inl ⟨obj, sz, n, e2, e3, e4, e5, fun r hr => ⟨?_, ?_⟩⟩⟩
    · refine e7.cut (m := 0) (fun row hrow => ?_) (fun r p hr => absurd hr (Nat.not_lt_zero _))
      simp at hrow
      subst hrow
      exact ltL_all (zero_lt hi 0)
    · cases e8
      rename_i p hp
      rw [envPut_same] at hp
      injection hp with hp
      subst hp
      exact .ptr _ _ _ _ _ (envPut_same _ _ _)
  · exact h.elim
theorem AR.nil0_ok {P : Program} {run : Result Next} {sn : Snap} {ρ : Env} {H : Heap} {w : World} : ∀ {r : AR}, r.nil0 → r.ok P run sn ρ H w →
    ∃ obj cv w', run = .ok (.value cv) w' ∧ w'.heap = w.heap.push obj ∧ w'.os = w.os ∧ w'.tape = w.tape ∧ w'.output = w.output ∧ ∀ sz, VR sn ρ (.view true sz []) cv
  | .alloc b f, h, ho => by
    obtain ⟨obj, cv, w', sz, n, h1, h2, h3, h4, h5, h6, h7, h8⟩ := ho
    have hf : f H.length = .sl H.length 0 0 (some 0) := h _
    rw [hf] at h8
    obtain ⟨a, c, rfl, hl, hm, hc, _⟩ := h8.sl_inv
    have h0 : c = 0 := hc 0 rfl
    subst h0
    exact ⟨obj, _, w', h1, h2, h3, h4, h5, fun sz => .view _ true sz [] a 0 0 0 (fun _ _ => undef) (Nat.le_refl _) hm (fun _ => rfl) (by simp) (by simp) (by simp) (by simp) (by simp)⟩
  | .chk p r, h, ho => AR.nil0_ok h.2 (ho h.1)
/-- A block that nobody names is made. -/
theorem Rel.grow {sn : Snap} {ρ : Env} {H : Heap} {w w' : World} (h : Rel sn ρ H w) {obj : Obj} (hw : w'.heap = w.heap.push obj) : Rel sn ρ H w' := by
  have hold : ∀ b o, w.heap[b]? = some o → w'.heap[b]? = some o := fun b o hb => by
    rw [hw, Array.getElem?_push, if_neg (by have := (Array.getElem?_eq_some_iff.1 hb).1; omega)]; exact hb
  refine ⟨h.gl, fun b o hb => hold b o (h.snap b o hb), fun r blk p h1 h2 h3 => ?_, h.inj, h.top⟩
  obtain ⟨g1, o, g2, g3⟩ := h.own r blk p h1 h2 h3
  exact ⟨g1, o, hold _ _ g2, g3⟩
theorem push_frame {w w' : World} {obj : Obj} (hw : w'.heap = w.heap.push obj) : w.heap.size ≤ w'.heap.size ∧ ∀ b, b < w.heap.size → w'.heap[b]? = w.heap[b]? :=
  ⟨by rw [hw]; simp, fun b hb => by rw [hw, Array.getElem?_push, if_neg (by omega)]⟩
/-- A block takes the number that was kept for it. -/
theorem Rel.fill {sn : Snap} {ρ : Env} {H : Heap} {w w' : World} (h : Rel sn ρ H w) {r : Nat} {b : Blk} {obj : Obj} {sz n : Nat} (hr : H[r]? = some b) (hn : ρ r = none) (hw : w'.heap = w.heap.push obj)
    (hR : BlkR sn (envPut ρ r ⟨w.heap.size, sz, n⟩) ⟨w.heap.size, sz, n⟩ b obj) : Rel sn (envPut ρ r ⟨w.heap.size, sz, n⟩) H w' := by
  have hold : ∀ b o, w.heap[b]? = some o → w'.heap[b]? = some o := fun b o hb => by
    rw [hw, Array.getElem?_push, if_neg (by have := (Array.getElem?_eq_some_iff.1 hb).1; omega)]; exact hb
  have hrl := (List.getElem?_eq_some_iff.1 hr).1
  have hnew : ∀ x q, envPut ρ r ⟨w.heap.size, sz, n⟩ x = some q → (x = r ∧ q = ⟨w.heap.size, sz, n⟩) ∨ (x ≠ r ∧ ρ x = some q) := fun x q hq => by
    simp only [envPut] at hq
    split at hq
    · rename_i e; exact .inl ⟨e, (Option.some.inj hq).symm⟩
    · rename_i e; exact .inr ⟨e, hq⟩
  have hlt : ∀ (x : Nat) blk p, H[x]? = some blk → blk.live → ρ x = some p → p.b < w.heap.size := fun x blk p h1 h2 h3 => by
    obtain ⟨_, o, g2, _⟩ := h.own x blk p h1 h2 h3
    exact (Array.getElem?_eq_some_iff.1 g2).1
  refine ⟨h.gl, fun b o hb => hold b o (h.snap b o hb), fun x blk p h1 h2 h3 => ?_, fun x x' blk blk' p p' h1 h2 h1' h2' h3 h3' he => ?_, fun x hx => ?_⟩
  · rcases hnew x p h3 with ⟨rfl, rfl⟩ | ⟨_, h3⟩
    · rw [hr] at h1
      cases h1
      refine ⟨?_, obj, by rw [hw]; simp, hR⟩
      cases hs : sn w.heap.size with
      | none => rfl
      | some o => have := h.snap _ _ hs; simp at this
    · obtain ⟨g1, o, g2, g3⟩ := h.own x blk p h1 h2 h3
      exact ⟨g1, o, hold _ _ g2, g3.mono (fun _ _ h => h) (envPut_mono hn)⟩
  · rcases hnew x p h3 with ⟨k1, rfl⟩ | ⟨_, k3⟩ <;> rcases hnew x' p' h3' with ⟨k1', rfl⟩ | ⟨_, k3'⟩
    · rw [k1, k1']
    · have := hlt x' blk' p' h1' h2' k3'; simp only at he; omega
    · have := hlt x blk p h1 h2 k3; simp only at he; omega
    · exact h.inj x x' blk blk' p p' h1 h2 h1' h2' k3 k3' he
  · simp only [envPut]
    rw [if_neg (by omega)]
    exact h.top x hx
/-- What an operation does that doesn't stand in the order of those that change the heap: only a value; a new empty slice; or a new block, for which a number was kept. -/
inductive GK where
  | no
  | nl
  | mt (r : Nat) (b : Blk) (len : Nat)
def softOk (P : Program) (H : Heap) (g : GK) (v : AV) (s : Ch) (op : Op) : Prop := match g with
  | .no => (aop P s H op).yields P H v
  | .nl => (aop P s H op).nil0 ∧ ∃ sz, v = .view true sz []
  | .mt k b len => opMat P s op b len ∧ H[k]? = some b ∧ v = mval op k len

/-! ### the drawn order -/
def edge (o : Oper) (i : Nat) : Prop := ∃ e ∈ o.after, Region.binds .any e = true ∧ e.on = i
/-- Operation i, in its place of the text. -/
def nodeOk (P : Program) (G : Nat → GK) (S : Nat → Ch) (V : Nat → AV) (HV : Nat → Heap) (lo hi : Nat → Nat) (isM : Nat → Bool) (i : Nat) (o : Oper) : Prop :=
  if isM i = true then (aop P (S i) (HV (lo i)) o.op).steps P (HV (lo i)) (V i) (HV (lo i + 1)) else ∀ q, lo i ≤ q → q ≤ hi i → softOk P (HV q) (G i) (V i) (S i) o.op

structure Drawn (P : Program) (n : Nat) (ops : Array Oper) (G : Nat → GK) (S : Nat → Ch) (V : Nat → AV) (HV : Nat → Heap) (lo hi : Nat → Nat) (isM : Nat → Bool) (M : Nat) : Prop where
  slots : ∀ (i : Nat) (o : Oper), ops[i]? = some o → S (i + 1) = (S i).put? o.dst (V i)
  dst : ∀ (i : Nat) (o : Oper), ops[i]? = some o → dstOk n o = true
  apart : ∀ (i j : Nat) (oi oj : Oper), i < j → ops[i]? = some oi → ops[j]? = some oj → edge oj i ∨ oi.apart ops oj = true
  top : ∀ (j : Nat) (oj : Oper), ops[j]? = some oj → ∀ i, edge oj i → i < j
  low : ∀ (i : Nat) (o : Oper), ops[i]? = some o → lo i = 0 ∨ ∃ j, edge o j ∧ lo i ≤ if isM j = true then lo j + 1 else lo j
  high : ∀ (i : Nat) (o : Oper), ops[i]? = some o → isM i = false → M ≤ hi i ∨ ∃ (j : Nat) (oj : Oper), i < j ∧ ops[j]? = some oj ∧ edge oj i ∧ if isM j = true then lo j ≤ hi i else hi j ≤ hi i
  inj : ∀ i j, isM i = true → isM j = true → lo i = lo j → i = j
  less : ∀ i, isM i = true → lo i < M ∧ i < ops.size
  surj : ∀ r, r < M → ∃ i, isM i = true ∧ lo i = r
  node : ∀ (i : Nat) (o : Oper), ops[i]? = some o → match o.guard with
    | none => nodeOk P G S V HV lo hi isM i o
    | some (j, want) => gk (gval ops (S i) j) want (nodeOk P G S V HV lo hi isM i o) (V i = .tuple [] ∧ (isM i = true → HV (lo i + 1) = HV (lo i)))

/-- What a slot holds, behind the operations of L. -/
def Held (ops : Array Oper) (s0 : Ch) (V : Nat → AV) (L : Nat → Prop) (t : Nat) (x : AV) : Prop :=
  (∃ (j : Nat) (o : Oper), L j ∧ ops[j]? = some o ∧ o.dst = some t ∧ (∀ (k : Nat) (ok : Oper), L k → ops[k]? = some ok → ok.dst = some t → k ≤ j) ∧ x = V j) ∨
  ((∀ (k : Nat) (ok : Oper), L k → ops[k]? = some ok → ok.dst ≠ some t) ∧ x = s0.get t)
theorem Held.uniq {ops : Array Oper} {s0 : Ch} {V : Nat → AV} {L L' : Nat → Prop} {t : Nat} {x y : AV} (h : Held ops s0 V L t x) (h' : Held ops s0 V L' t y)
    (hL : ∀ (k : Nat) (ok : Oper), ops[k]? = some ok → ok.dst = some t → (L k ↔ L' k)) : x = y := by
  rcases h with ⟨j, o, h1, h2, h3, h4, rfl⟩ | ⟨h1, rfl⟩ <;> rcases h' with ⟨j', o', g1, g2, g3, g4, rfl⟩ | ⟨g1, rfl⟩
  · have a := h4 j' o' ((hL j' o' g2 g3).2 g1) g2 g3
    have b := g4 j o ((hL j o h2 h3).1 h1) h2 h3
    rw [Nat.le_antisymm b a]
  · exact absurd h3 (g1 j o ((hL j o h2 h3).1 h1) h2)
  · exact absurd g3 (h1 j' o' ((hL j' o' g2 g3).2 g1) g2)
  · rfl
theorem Held.put {ops : Array Oper} {s0 : Ch} {V : Nat → AV} {L : Nat → Prop} {s : Ch} (h : ∀ t, Held ops s0 V L t (s.get t)) {i : Nat} {o : Oper} (hi : ops[i]? = some o)
    (hl : ∀ (k : Nat) (ok : Oper) (d : Tmp), L k → ops[k]? = some ok → ok.dst = some d → o.dst = some d → k ≤ i) (t : Nat) : Held ops s0 V (fun k => L k ∨ k = i) t ((s.put? o.dst (V i)).get t) := by
  by_cases hd : o.dst = some t
  · refine .inl ⟨i, o, .inr rfl, hi, hd, fun k ok hk hko hkd => ?_, by simp [hd, Ch.put?, Ch.get]⟩
    rcases hk with hk | rfl
    · exact hl k ok t hk hko hkd hd
    · exact Nat.le_refl _
  · have hg : (s.put? o.dst (V i)).get t = s.get t := by
      unfold Ch.put?
      split
      · rename_i d hd'
        have : t ≠ d := fun e => hd (by rw [hd', e])
        simp [Ch.get, this]
      · rfl
    rw [hg]
    rcases h t with ⟨j, oj, h1, h2, h3, h4, h5⟩ | ⟨h1, h2⟩
    · refine .inl ⟨j, oj, .inl h1, h2, h3, fun k ok hk hko hkd => ?_, h5⟩
      rcases hk with hk | rfl
      · exact h4 k ok hk hko hkd
      · rw [hi] at hko; cases hko; exact absurd hkd hd
    · refine .inr ⟨fun k ok hk hko => ?_, h2⟩
      rcases hk with hk | rfl
      · exact h1 k ok hk hko
      · rw [hi] at hko; cases hko; exact hd

section
variable {P : Program} {n : Nat} {D : Fx} {ops : Array Oper} {G : Nat → GK} {S : Nat → Ch} {V : Nat → AV} {HV : Nat → Heap} {lo hi : Nat → Nat} {isM : Nat → Bool} {M : Nat}
theorem Drawn.lex (d : Drawn P n ops G S V HV lo hi isM M) : ∀ i, i ≤ ops.size → ∀ t, Held ops (S 0) V (fun k => k < i) t ((S i).get t) := by
  intro i
  induction i with
  | zero => intro _ t; exact .inr ⟨fun k ok hk => absurd hk (Nat.not_lt_zero _), rfl⟩
  | succ i ih =>
    intro hi t
    have hlt : i < ops.size := hi
    have ho : ops[i]? = some ops[i] := Array.getElem?_eq_getElem hlt
    rw [d.slots i _ ho]
    have := Held.put (ih (Nat.le_of_lt hlt)) ho (fun k ok d hk _ _ _ => Nat.le_of_lt hk) t
    rcases this with ⟨j, oj, h1, h2, h3, h4, h5⟩ | ⟨h1, h2⟩
    · exact .inl ⟨j, oj, by show j < i + 1; omega, h2, h3, fun k ok hk hko hkd => h4 k ok (by omega) hko hkd, h5⟩
    · exact .inr ⟨fun k ok hk hko => h1 k ok (by omega) hko, h2⟩
/-- The operations that ran, as a set. -/
def Lst (listed : Array Bool) (k : Nat) : Prop := listed.getD k false = true
structure Inv (P : Program) (n : Nat) (D : Fx) (ops : Array Oper) (H0 : Heap) (G : Nat → GK) (S : Nat → Ch) (V : Nat → AV) (HV : Nat → Heap) (lo hi : Nat → Nat) (isM : Nat → Bool) (M : Nat) (sn0 : Snap) (ρ0 : Env) (w0 : World) (listed : Array Bool) (a : Act) (w : World) (q : Nat) (sn : Snap) (ρ : Env) (s : Ch) : Prop where
  size : listed.size = ops.size
  qM : q ≤ M
  mains : ∀ i, isM i = true → (Lst listed i ↔ lo i < q)
  lows : ∀ i, Lst listed i → lo i ≤ q
  closed : ∀ (i : Nat) (o : Oper), Lst listed i → ops[i]? = some o → ∀ j, edge o j → Lst listed j
  held : ∀ t, Held ops (S 0) V (Lst listed) t (s.get t)
  rel : Rel sn ρ (HV q) w
  sr : SR sn ρ n s a.tmps
  df : a.defers = D.D
  ext : ExtB D.B sn0 ρ0 H0 w0 sn ρ (HV q) w
  glen : (HV 0).length ≤ (HV q).length
  gh : ∀ i r b len, G i = .mt r b len → ¬ Lst listed i → ρ r = none

theorem ready_facts {listed : Array Bool} {i : Nat} (hs : listed.size = ops.size) (hi : i ∈ Region.ready .any ops listed) : ¬ Lst listed i ∧ ∃ o, ops[i]? = some o ∧ ∀ j, edge o j → Lst listed j := by
  obtain ⟨h1, o, h2, h3⟩ := mem_ready.1 hi
  refine ⟨fun h => ?_, o, h2, fun j ⟨e, he, hb, hj⟩ => hj ▸ h3 e he hb⟩
  have hlt : i < ops.size := (Array.getElem?_eq_some_iff.1 h2).1
  unfold Lst at h
  rw [Array.getD_eq_getD_getElem?, Array.getElem?_eq_getElem (by omega)] at h h1
  simp at h h1
  rw [h] at h1
  cases h1

theorem Drawn.hi_ok (d : Drawn P n ops G S V HV lo hi isM M) {listed : Array Bool} {q : Nat} (hq : q ≤ M) (hm : ∀ i, isM i = true → (Lst listed i ↔ lo i < q)) (hc : ∀ (i : Nat) (o : Oper), Lst listed i → ops[i]? = some o → ∀ j, edge o j → Lst listed j) :
    ∀ (m i : Nat) (o : Oper), ops.size - i ≤ m → ops[i]? = some o → isM i = false → ¬ Lst listed i → q ≤ hi i := by
  intro m
  induction m with
  | zero =>
    intro i o hm ho
    have := (Array.getElem?_eq_some_iff.1 ho).1
    omega
  | succ m ih =>
    intro i o hle ho hM hn
    have hlt := (Array.getElem?_eq_some_iff.1 ho).1
    rcases d.high i o ho hM with h | ⟨j, oj, hij, hoj, he, h⟩
    · omega
    · split at h
      · rename_i hjm
        by_cases hl : Lst listed j
        · exact absurd (hc j oj hl hoj i he) hn
        · have := mt (hm j hjm).2 hl
          omega
      · rename_i hjm
        by_cases hl : Lst listed j
        · exact absurd (hc j oj hl hoj i he) hn
        · have := ih j oj (by omega) hoj (by simpa using hjm) hl
          omega

theorem lst_set {listed : Array Bool} {i k : Nat} (hi : i < listed.size) : Lst (listed.setIfInBounds i true) k ↔ Lst listed k ∨ k = i := by
  unfold Lst
  by_cases h : i = k
  · subst h
    simp [hi]
  · rw [getD_set_ne false h]
    constructor
    · exact .inl
    · rintro (h' | rfl)
      · exact h'
      · exact absurd rfl h

theorem operands_looks {o : Oper} {t : Tmp} (h : Operand.tmp t ∈ o.op.operands) : t ∈ o.looksAt ops :=
  List.mem_append_left _ (List.mem_filterMap.2 ⟨.tmp t, by simpa using h, rfl⟩)
theorem guard_looks {o : Oper} {j : Nat} {want : Bool} {t : Tmp} (h : o.guard = some (j, want)) (ht : (ops[j]?).bind (·.dst) = some t) : t ∈ o.looksAt ops := by
  refine List.mem_append_right _ ?_
  simp [h, ht]

/-- At a ready operation the slots that it looks at hold what they hold in the text's order. -/
theorem Drawn.sees (d : Drawn P n ops G S V HV lo hi isM M) {listed : Array Bool} {s : Ch} (hs : listed.size = ops.size) (hc : ∀ (i : Nat) (o : Oper), Lst listed i → ops[i]? = some o → ∀ j, edge o j → Lst listed j)
    (hh : ∀ t, Held ops (S 0) V (Lst listed) t (s.get t)) {i : Nat} {o : Oper} (ho : ops[i]? = some o) (hn : ¬ Lst listed i) (ha : ∀ j, edge o j → Lst listed j) {t : Nat} (ht : t ∈ o.looksAt ops) : s.get t = (S i).get t := by
  have hlt := (Array.getElem?_eq_some_iff.1 ho).1
  refine (hh t).uniq (d.lex i (Nat.le_of_lt hlt) t) fun k ok hk hkd => ⟨fun hl => ?_, fun hl => ?_⟩
  · rcases Nat.lt_trichotomy k i with h | rfl | h
    · exact h
    · exact absurd hl hn
    · rcases d.apart i k o ok h ho hk with he | he
      · exact absurd (hc k ok hl hk i he) hn
      · exact absurd ht ((Oper.apart_spec he).2.2 t hkd)
  · have hl : k < i := hl
    rcases d.apart k i ok o hl hk ho with he | he
    · exact ha k he
    · exact absurd ht ((Oper.apart_spec he).1 t hkd)

/-- No operation that ran and stands later writes where this one writes. -/
theorem Drawn.last (d : Drawn P n ops G S V HV lo hi isM M) {listed : Array Bool} (hc : ∀ (i : Nat) (o : Oper), Lst listed i → ops[i]? = some o → ∀ j, edge o j → Lst listed j)
    {i : Nat} {o : Oper} (ho : ops[i]? = some o) (hn : ¬ Lst listed i) : ∀ (k : Nat) (ok : Oper) (t : Tmp), Lst listed k → ops[k]? = some ok → ok.dst = some t → o.dst = some t → k ≤ i := by
  intro k ok t hl hk hkd hod
  rcases Nat.lt_or_ge i k with h | h
  · rcases d.apart i k o ok h ho hk with he | he
    · exact absurd (hc k ok hl hk i he) hn
    · exact absurd hkd ((Oper.apart_spec he).2.1 t hod)
  · exact h

theorem cev_congr {s s' : Ch} {x : Operand} (h : ∀ t, x = .tmp t → s.get t = s'.get t) : cev s x = cev s' x := by
  cases x with
  | tmp t => exact h t rfl
  | _ => rfl

theorem drawn_any (d : Drawn P n ops G S V HV lo hi isM M) {Q : XQ} (hQ : Q .normal (S ops.size) (HV M)) {H0 : Heap} (hG : ∀ i r b len, G i = .mt r b len → r < (HV 0).length ∧ D.B ≤ r) (hGi : ∀ i j r b len b' len', G i = .mt r b len → G j = .mt r b' len' → i = j) {sn0 : Snap} {ρ0 : Env} {w0 : World} :
    ∀ (fuel : Nat) (listed : Array Bool) (a : Act) (w : World) (q : Nat) (sn : Snap) (ρ : Env) (s : Ch), Inv P n D ops H0 G S V HV lo hi isM M sn0 ρ0 w0 listed a w q sn ρ s → listed.toList.countP (·) + fuel = ops.size →
      wpAny P .any ops (fun e a' w' => ∃ sn' ρ' H' s' x, AXR sn' ρ' x e ∧ Rel sn' ρ' H' w' ∧ SR sn' ρ' n s' a'.tmps ∧ a'.defers = D.D ∧ ExtB D.B sn0 ρ0 H0 w0 sn' ρ' H' w' ∧ Q x s' H') fuel listed a w := by
  have fin : ∀ (listed : Array Bool) (a : Act) (w : World) (q : Nat) (sn : Snap) (ρ : Env) (s : Ch), Inv P n D ops H0 G S V HV lo hi isM M sn0 ρ0 w0 listed a w q sn ρ s → (∀ k, k < ops.size → Lst listed k) →
      ∃ sn' ρ' H' s' x, AXR sn' ρ' x .normal ∧ Rel sn' ρ' H' w ∧ SR sn' ρ' n s' a.tmps ∧ a.defers = D.D ∧ ExtB D.B sn0 ρ0 H0 w0 sn' ρ' H' w ∧ Q x s' H' := by
    intro listed a w q sn ρ s h hall
    have hq : q = M := by
      rcases Nat.lt_or_ge q M with hlt | hge
      · obtain ⟨i, hi, hr⟩ := d.surj q hlt
        have := (h.mains i hi).1 (hall i (d.less i hi).2)
        omega
      · exact Nat.le_antisymm h.qM hge
    subst hq
    refine ⟨sn, ρ, _, S ops.size, .normal, trivial, h.rel, ⟨h.sr.size, fun t => ?_⟩, h.df, h.ext, hQ⟩
    have : s.get t = (S ops.size).get t := (h.held t).uniq (d.lex _ (Nat.le_refl _) t) fun k ok hk _ => by
      have hlt := (Array.getElem?_eq_some_iff.1 hk).1
      exact ⟨fun _ => hlt, fun _ => hall k hlt⟩
    rw [← this]
    exact h.sr.get t
  have stuck : ∀ (listed : Array Bool), listed.size = ops.size → Region.ready .any ops listed = [] → ∀ k, k < ops.size → Lst listed k := by
    intro listed hs hr k
    induction k using Nat.strongRecOn with
    | _ k ih =>
      intro hk
      by_cases hl : Lst listed k
      · exact hl
      · have : k ∈ Region.ready .any ops listed := by
          rw [mem_ready]
          refine ⟨?_, ops[k], Array.getElem?_eq_getElem hk, fun e he hb => ?_⟩
          · unfold Lst at hl
            rw [Array.getD_eq_getD_getElem?, Array.getElem?_eq_getElem (by omega)] at hl ⊢
            simpa using hl
          · have := d.top k _ (Array.getElem?_eq_getElem hk) e.on ⟨e, he, hb, rfl⟩
            exact ih e.on this (by omega)
        rw [hr] at this
        cases this
  intro fuel
  induction fuel with
  | zero =>
    intro listed a w q sn ρ s h hf
    have hall : ∀ k, k < ops.size → Lst listed k := by
      intro k hk
      have h1 : listed.toList.countP (·) = listed.toList.length := by simp [h.size]; simpa using hf
      have h2 := List.countP_eq_length.1 h1
      unfold Lst
      have hk' : k < listed.size := by rw [h.size]; exact hk
      rw [Array.getD_eq_getD_getElem?, Array.getElem?_eq_getElem hk']
      exact h2 _ (by simp)
    refine ⟨?_, fin _ _ _ _ _ _ _ h hall⟩
    rw [List.eq_nil_iff_forall_not_mem]
    intro k hk
    have := ready_facts h.size hk
    obtain ⟨o, ho, _⟩ := this.2
    exact this.1 (hall k (Array.getElem?_eq_some_iff.1 ho).1)
  | succ fuel ih =>
    intro listed a w q sn ρ s h hf
    refine ⟨fun hr => fin _ _ _ _ _ _ _ h (stuck _ h.size hr), fun i hir => ?_⟩
    obtain ⟨hn, o, ho, ha⟩ := ready_facts h.size hir
    have hlt := (Array.getElem?_eq_some_iff.1 ho).1
    have hlt' : i < listed.size := by rw [h.size]; exact hlt
    have hsees : ∀ t, t ∈ o.looksAt ops → s.get t = (S i).get t := fun t => d.sees h.size h.closed h.held ho hn ha
    have hlo : lo i ≤ q := by
      rcases d.low i o ho with h0 | ⟨j, hj, h0⟩
      · omega
      · have hl := ha j hj
        split at h0
        · rename_i hjm
          have := (h.mains j hjm).1 hl
          omega
        · have := h.lows j hl
          omega
    have hcnt : (listed.setIfInBounds i true).toList.countP (·) + fuel = ops.size := by
      have hfalse : listed[i] = false := by
        unfold Lst at hn
        rw [Array.getD_eq_getD_getElem?, Array.getElem?_eq_getElem hlt'] at hn
        simpa using hn
      rw [Array.toList_setIfInBounds, List.countP_set (by simpa using hlt')]
      simp only [Array.getElem_toList, hfalse]
      simp only [Bool.false_eq_true, if_false, if_true, Nat.sub_zero]
      omega
    have hclosed : ∀ (k : Nat) (ok : Oper), Lst (listed.setIfInBounds i true) k → ops[k]? = some ok → ∀ j, edge ok j → Lst (listed.setIfInBounds i true) j := by
      intro k ok hk hok j hj
      rw [lst_set hlt'] at hk ⊢
      rcases hk with hk | rfl
      · exact .inl (h.closed k ok hk hok j hj)
      · rw [ho] at hok; cases hok; exact .inl (ha j hj)
    have hheld : ∀ t, Held ops (S 0) V (Lst (listed.setIfInBounds i true)) t ((s.put? o.dst (V i)).get t) := by
      intro t
      have := Held.put h.held ho (fun k ok t' hk hok hkd hod => d.last h.closed ho hn k ok t' hk hok hkd hod) t
      have he : (fun k => Lst listed k ∨ k = i) = Lst (listed.setIfInBounds i true) := by funext k; exact propext (lst_set hlt').symm
      rw [← he]; exact this
    have hlows : ∀ q', lo i ≤ q' → q ≤ q' → ∀ k, Lst (listed.setIfInBounds i true) k → lo k ≤ q' := by
      intro q' h1 h2 k hk
      rw [lst_set hlt'] at hk
      rcases hk with hk | rfl
      · exact Nat.le_trans (h.lows k hk) h2
      · exact h1
    have hgh : ∀ ρ' : Env, (∀ k r b len, G k = .mt r b len → ρ' r = ρ r) → ∀ k r b len, G k = .mt r b len → ¬ Lst (listed.setIfInBounds i true) k → ρ' r = none := fun ρ' he k r b len hk hl => by
      rw [he k r b len hk]
      exact h.gh k r b len hk (fun h1 => hl ((lst_set hlt').2 (.inl h1)))
    have hmain : isM i = true → lo i = q := by
      intro hm
      have := mt (h.mains i hm).2 hn
      omega
    have hdst := d.dst i o ho
    /- the operation, as in the text's order -/
    have same : aop P s (HV q) o.op = aop P (S i) (HV q) o.op := aop_congr fun x hx => cev_congr fun t ht => hsees t (operands_looks (by rw [← ht]; exact hx))
    have go : nodeOk P G S V HV lo hi isM i o → Oper.wp P o a w (wpAny P .any ops (fun e a' w' => ∃ sn' ρ' H' s' x, AXR sn' ρ' x e ∧ Rel sn' ρ' H' w' ∧ SR sn' ρ' n s' a'.tmps ∧ a'.defers = D.D ∧ ExtB D.B sn0 ρ0 H0 w0 sn' ρ' H' w' ∧ Q x s' H') fuel (listed.setIfInBounds i true))
        (fun e a' w' => ∃ sn' ρ' H' s' x, AXR sn' ρ' x e ∧ Rel sn' ρ' H' w' ∧ SR sn' ρ' n s' a'.tmps ∧ a'.defers = D.D ∧ ExtB D.B sn0 ρ0 H0 w0 sn' ρ' H' w' ∧ Q x s' H') := by
      intro hnode
      unfold nodeOk at hnode
      split at hnode
      · rename_i hm
        have hq := hmain hm
        rw [hq, ← same] at hnode
        have hk := AR.steps_k (X := fun _ _ => False) hnode
        refine upon_ok h.rel ?_ ?_ _ (aop_ok h.rel h.sr o (AR.enters_of_k hk)) hk
        · rintro sn' ρ' H' w' v cv q1 q2 hv ⟨rfl, rfl⟩
          refine ih _ _ _ (q + 1) sn' ρ' (s.put? o.dst (V i)) ⟨by simp [h.size], by have := (d.less i hm).1; omega, ?_, hlows _ (by omega) (by omega), hclosed, hheld, q1, (h.sr.mono q2.snap q2.env).put? hdst hv, by rw [put_defers]; exact h.df, h.ext.trans (q2.b h.ext.len), Nat.le_trans h.glen q2.len, hgh ρ' fun k r b len hk => q2.envlt r (by have := (hG k r b len hk).1; have := h.glen; omega)⟩ hcnt
          intro k hk
          rw [lst_set hlt', h.mains k hk]
          constructor
          · rintro (h1 | rfl) <;> omega
          · intro h1
            rcases Nat.lt_or_ge (lo k) q with h2 | h2
            · exact .inl h2
            · exact .inr (d.inj k i hk hm (by omega))
        · intro _ _ _ _ _ _ _ _ _ h'; exact h'.elim
      · rename_i hm
        have hm' : isM i = false := by simpa using hm
        have hhi := d.hi_ok h.qM h.mains h.closed _ i o (Nat.le_refl _) ho hm' hn
        have hy := hnode q hlo hhi
        have hmains : ∀ k, isM k = true → (Lst (listed.setIfInBounds i true) k ↔ lo k < q) := by
          intro k hk
          rw [lst_set hlt', h.mains k hk]
          constructor
          · rintro (h1 | h1)
            · exact h1
            · subst h1; exact absurd (by assumption) hm
          · exact .inl
        cases hg : G i with
        | no =>
          rw [hg] at hy
          have hy : (aop P (S i) (HV q) o.op).yields P (HV q) (V i) := hy
          rw [← same] at hy
          have hk := AR.yields_k (P := P) (H := HV q) (X := fun _ _ => False) hy
          refine upon_ok h.rel ?_ ?_ _ (aop_ok h.rel h.sr o (AR.enters_of_k hk)) hk
          · rintro sn' ρ' H' w' v cv q1 q2 hv ⟨rfl, rfl⟩
            exact ih _ _ _ q sn' ρ' (s.put? o.dst (V i)) ⟨by simp [h.size], h.qM, hmains, hlows _ hlo (Nat.le_refl _), hclosed, hheld, q1, (h.sr.mono q2.snap q2.env).put? hdst hv, by rw [put_defers]; exact h.df, h.ext.trans (q2.b h.ext.len), Nat.le_trans h.glen q2.len, hgh ρ' fun k r b len hk => q2.envlt r (by have := (hG k r b len hk).1; have := h.glen; omega)⟩ hcnt
          · intro _ _ _ _ _ _ _ _ _ h'; exact h'.elim
        | nl =>
          rw [hg] at hy
          obtain ⟨hy1, sz, hv⟩ := hy
          rw [← same] at hy1
          obtain ⟨obj, cv, w', e1, e2, e3, e4, e5, e6⟩ := AR.nil0_ok hy1 (aop_ok h.rel h.sr o (AR.nil0_enters hy1))
          unfold Oper.wp
          rw [e1]
          have hf := push_frame e2
          exact ih _ _ _ q sn ρ (s.put? o.dst (V i)) ⟨by simp [h.size], h.qM, hmains, hlows _ hlo (Nat.le_refl _), hclosed, hheld, h.rel.grow e2, h.sr.put? hdst (by rw [hv]; exact e6 sz), by rw [put_defers]; exact h.df,
            h.ext.trans ⟨fun _ _ => rfl, h.ext.len, fun _ _ h => h, hf.1, e3, e4, e5, fun b hb _ => hf.2 b hb, fun b hb => absurd rfl hb, fun b ho => .inr ho⟩, h.glen, hgh ρ fun _ _ _ _ _ => rfl⟩ hcnt
        | mt r b len =>
          rw [hg] at hy
          obtain ⟨hy1, hr, hv⟩ := hy
          have samem : opMat P s o.op b len = opMat P (S i) o.op b len := opMat_congr fun x hx => cev_congr fun t ht => hsees t (operands_looks (by rw [← ht]; exact hx))
          rw [← samem] at hy1
          have hnone := h.gh i r b len hg hn
          have hrB := (hG i r b len hg).2
          obtain ⟨cv, w', e1, hcase⟩ := opMat_ok h.rel h.sr o hy1
          unfold Oper.wp
          rw [e1]
          rcases hcase with ⟨obj, sz, m, e2, e3, e4, e5, e6⟩ | ⟨rfl, e6⟩
          · have hf := push_frame e2
            obtain ⟨e7, e8⟩ := e6 r hnone
            refine ih _ _ _ q sn (envPut ρ r ⟨w.heap.size, sz, m⟩) (s.put? o.dst (V i)) ⟨by simp [h.size], h.qM, hmains, hlows _ hlo (Nat.le_refl _), hclosed, hheld, h.rel.fill hr hnone e2 e7, (h.sr.mono (fun _ _ h => h) (envPut_mono hnone)).put? hdst (by rw [hv]; exact e8), by rw [put_defers]; exact h.df,
              h.ext.trans ⟨fun x hx => by simp only [envPut]; rw [if_neg (by omega)], h.ext.len, fun _ _ h => h, hf.1, e3, e4, e5, fun b hb _ => hf.2 b hb, fun b hb => absurd rfl hb, fun x ho => ?_⟩, h.glen, ?_⟩ hcnt
            · obtain ⟨k, blk, p, g1, g2, g3, g4⟩ := ho
              simp only [envPut] at g3
              split at g3
              · cases g3; exact .inl (by rw [← g4]; exact Nat.le_refl _)
              · exact .inr ⟨k, blk, p, g1, g2, g3, g4⟩
            · intro k r' b' len' hk hl
              have hne : r' ≠ r := fun e => hl ((lst_set hlt').2 (.inr (by subst e; exact hGi k i _ _ _ _ _ hk hg)))
              simp only [envPut]
              rw [if_neg hne]
              exact h.gh k r' b' len' hk (fun h1 => hl ((lst_set hlt').2 (.inl h1)))
          · exact ih _ _ _ q sn ρ (s.put? o.dst (V i)) ⟨by simp [h.size], h.qM, hmains, hlows _ hlo (Nat.le_refl _), hclosed, hheld, h.rel, h.sr.put? hdst (by rw [hv]; exact e6 r), by rw [put_defers]; exact h.df, h.ext, h.glen, hgh ρ fun _ _ _ _ _ => rfl⟩ hcnt
    have hnd := d.node i o ho
    unfold wpOp
    simp only [ho]
    cases hg : o.guard with
    | none =>
      simp only [hg] at hnd
      have hw : Region.wanted o (yielded ops a.tmps) = true := by simp [Region.wanted, hg]
      rw [if_pos hw]
      exact .inl (go hnd)
    | some gw =>
      obtain ⟨j, want⟩ := gw
      simp only [hg] at hnd
      unfold gk at hnd
      split at hnd
      · rename_i b hb
        have hb' : gval ops s j = .bool b := by
          rw [← hb]
          unfold gval
          cases hd : (ops[j]?).bind (·.dst) with
          | none => rfl
          | some t => exact hsees t (guard_looks hg hd)
        have hy := gval_ok h.sr hb'
        split at hnd
        · rename_i hbw
          have hw : Region.wanted o (yielded ops a.tmps) = true := by simp [Region.wanted, hg, hy, hbw]
          rw [if_pos hw]
          exact .inl (go hnd)
        · rename_i hbw
          have hw : ¬ Region.wanted o (yielded ops a.tmps) = true := by simp [Region.wanted, hg, hy, hbw]
          rw [if_neg hw]
          obtain ⟨hv, hh⟩ := hnd
          have hput : SR sn ρ n (s.put? o.dst (V i)) (a.put o.dst undef).tmps := h.sr.put? hdst (by rw [hv]; exact undef_ok _ _)
          by_cases hm : isM i = true
          · have hq := hmain hm
            have hh' := hh hm
            rw [hq] at hh'
            refine ih _ _ _ (q + 1) sn ρ (s.put? o.dst (V i)) ⟨by simp [h.size], by have := (d.less i hm).1; omega, ?_, hlows _ (by omega) (by omega), hclosed, hheld, by rw [hh']; exact h.rel, hput, by rw [put_defers]; exact h.df, by rw [hh']; exact h.ext, by rw [hh']; exact h.glen, hgh ρ fun _ _ _ _ _ => rfl⟩ hcnt
            intro k hk
            rw [lst_set hlt', h.mains k hk]
            constructor
            · rintro (h1 | rfl) <;> omega
            · intro h1
              rcases Nat.lt_or_ge (lo k) q with h2 | h2
              · exact .inl h2
              · exact .inr (d.inj k i hk hm (by omega))
          · have hm' : isM i = false := by simpa using hm
            refine ih _ _ _ q sn ρ (s.put? o.dst (V i)) ⟨by simp [h.size], h.qM, ?_, hlows _ hlo (Nat.le_refl _), hclosed, hheld, h.rel, hput, by rw [put_defers]; exact h.df, h.ext, h.glen, hgh ρ fun _ _ _ _ _ => rfl⟩ hcnt
            intro k hk
            rw [lst_set hlt', h.mains k hk]
            constructor
            · rintro (h1 | h1)
              · exact h1
              · subst h1; exact absurd hk hm
            · exact .inl
      · rename_i hb
        have hb' : gval ops s j = .tuple [] := by
          rw [← hb]
          unfold gval
          cases hd : (ops[j]?).bind (·.dst) with
          | none => rfl
          | some t => exact hsees t (guard_looks hg hd)
        have hw : ¬ Region.wanted o (yielded ops a.tmps) = true := by simp [Region.wanted, hg, gval_undef h.sr hb']
        rw [if_neg hw]
        obtain ⟨hv, hh⟩ := hnd
        have hput : SR sn ρ n (s.put? o.dst (V i)) (a.put o.dst undef).tmps := h.sr.put? hdst (by rw [hv]; exact undef_ok _ _)
        by_cases hm : isM i = true
        · have hq := hmain hm
          have hh' := hh hm
          rw [hq] at hh'
          refine ih _ _ _ (q + 1) sn ρ (s.put? o.dst (V i)) ⟨by simp [h.size], by have := (d.less i hm).1; omega, ?_, hlows _ (by omega) (by omega), hclosed, hheld, by rw [hh']; exact h.rel, hput, by rw [put_defers]; exact h.df, by rw [hh']; exact h.ext, by rw [hh']; exact h.glen, hgh ρ fun _ _ _ _ _ => rfl⟩ hcnt
          intro k hk
          rw [lst_set hlt', h.mains k hk]
          constructor
          · rintro (h1 | rfl) <;> omega
          · intro h1
            rcases Nat.lt_or_ge (lo k) q with h2 | h2
            · exact .inl h2
            · exact .inr (d.inj k i hk hm (by omega))
        · have hm' : isM i = false := by simpa using hm
          refine ih _ _ _ q sn ρ (s.put? o.dst (V i)) ⟨by simp [h.size], h.qM, ?_, hlows _ hlo (Nat.le_refl _), hclosed, hheld, h.rel, hput, by rw [put_defers]; exact h.df, h.ext, h.glen, hgh ρ fun _ _ _ _ _ => rfl⟩ hcnt
          intro k hk
          rw [lst_set hlt', h.mains k hk]
          constructor
          · rintro (h1 | h1)
            · exact h1
            · subst h1; exact absurd hk hm
          · exact .inl
      · exact hnd.elim

/-- What is asked of the operations of a drawn region, in whatever order. -/
def SAny (P : Program) (n : Nat) (D : Fx) (ops : Array Oper) (Q : XQ) (s : Ch) (H : Heap) : Prop :=
  ∀ (sn : Snap) (ρ : Env) (w : World) (a : Act), Rel sn ρ H w → SR sn ρ n s a.tmps → a.defers = D.D → D.B ≤ H.length →
    wpAny P .any ops (fun e a' w' => ∃ sn' ρ' H' s' x, AXR sn' ρ' x e ∧ Rel sn' ρ' H' w' ∧ SR sn' ρ' n s' a'.tmps ∧ a'.defers = D.D ∧ ExtB D.B sn ρ H w sn' ρ' H' w' ∧ Q x s' H') ops.size (Array.replicate ops.size false) a { w with drawn := w.drawn + 1 }
theorem SAny.region {P : Program} {n : Nat} {D : Fx} {ops : Array Oper} {Q : XQ} {s : Ch} {H : Heap} {id : Nat} (hm : P.follows .mixedOrders = true) (hnd : ops.all noDef = true) (h : SAny P n D ops Q s H) : SWp P n D (.region id ops true) Q s H :=
  fun ro sn ρ w a hR hs hd hB => wpIn_region_any hm (wpAny_in hnd notOut _ _ _ _ (h sn ρ w a hR hs hd hB))
theorem drawn_sound (d : Drawn P n ops G S V HV lo hi isM M) {Q : XQ} (hQ : Q .normal (S ops.size) (HV M)) {H : Heap} (gs : List Blk) (h0 : HV 0 = H ++ gs) (hG : ∀ i r b len, G i = .mt r b len → r < (HV 0).length ∧ H.length ≤ r)
    (hGi : ∀ i j r b len b' len', G i = .mt r b len → G j = .mt r b' len' → i = j) : SAny P n D ops Q (S 0) H := by
  intro sn ρ w a hR hs hd hB
  have hno : ∀ k, ¬ Lst (Array.replicate ops.size false) k := by
    intro k h
    unfold Lst at h
    rw [Array.getD_eq_getD_getElem?, Array.getElem?_replicate] at h
    split at h <;> simp at h
  have hold : ∀ (r : Nat) blk p, (H ++ gs)[r]? = some blk → ρ r = some p → H[r]? = some blk := fun r blk p h1 h2 => by
    rcases Nat.lt_or_ge r H.length with hl | hl
    · rwa [List.getElem?_append_left hl] at h1
    · rw [hR.top r hl] at h2; cases h2
  refine drawn_any d hQ (fun i r b len h => ⟨(hG i r b len h).1, Nat.le_trans hB (hG i r b len h).2⟩) hGi _ _ _ _ 0 sn ρ (S 0) ⟨by simp, Nat.zero_le _, fun i hi => ⟨fun h => absurd h (hno i), fun h => absurd h (Nat.not_lt_zero _)⟩, fun i h => absurd h (hno i), fun i o h => absurd h (hno i), fun t => .inr ⟨fun k ok h => absurd h (hno k), rfl⟩,
    by
      rw [h0]
      exact ⟨hR.gl, hR.snap, fun r blk p h1 h2 h3 => hR.own r blk p (hold r blk p h1 h3) h2 h3, fun r r' blk blk' p p' h1 h2 h1' h2' h3 h3' he => hR.inj r r' blk blk' p p' (hold r blk p h1 h3) h2 (hold r' blk' p' h1' h3') h2' h3 h3' he, fun r hr => hR.top r (by rw [List.length_append] at hr; omega)⟩, hs, hd,
    ⟨fun _ _ => rfl, by rw [h0, List.length_append]; omega, fun _ _ h => h, Nat.le_refl _, rfl, rfl, rfl, fun _ _ _ => rfl, fun b hb => absurd rfl hb, fun b ho => by
      rw [h0] at ho
      obtain ⟨r, blk, p, h1, h2, h3, h4⟩ := ho
      exact .inr ⟨r, blk, p, hold r blk p h1 h3, h2, h3, h4⟩⟩, Nat.le_refl _, fun i r b len h _ => hR.top r (hG i r b len h).2⟩ ?_
  simp [List.countP_replicate]
end
end Go.AM

set_option linter.unusedVariables false
set_option linter.unusedSimpArgs false
namespace Go.AM

/-- How an operation of a drawn region stands to those that change the heap: at which of the heap's versions it may run. -/
inductive Pl where
  | qu (lo hi : Nat)
  | rd (lo hi : Nat)
  | mn (r : Nat)
  | gn (z lo hi : Nat)
  | gm (r lo hi : Nat)
def Pl.lo : Pl → Nat
  | .qu l _ | .rd l _ | .gn _ l _ | .gm _ l _ => l
  | .mn r => r
def Pl.hi : Pl → Nat
  | .qu _ h | .rd _ h | .gn _ _ h | .gm _ _ h => h
  | .mn r => r
def Pl.isM : Pl → Bool
  | .mn _ => true
  | _ => false
def Pl.af (p : Pl) : Nat := if p.isM = true then p.lo + 1 else p.lo
def Pl.hl (p : Pl) : Nat := if p.isM = true then p.lo else p.hi
def cntM : List Pl → Nat
  | [] => 0
  | .mn _ :: l => cntM l + 1
  | _ :: l => cntM l
/-- What an operation reads. -/
inductive Rd where
  | load (t : TypeId) (x : AV)
  | slice (t : TypeId) (x : AV) (lo hi mx : Option AV)
  | iaddr (t : TypeId) (x k : AV)
  | call (f : AV) (args : List AV)
  | blk (r : Nat) (b : Blk)
def Rd.run (P : Program) (H : Heap) : Rd → AR
  | .load t x => aLoad P t x H
  | .slice t x lo hi mx => aSlice P t x H lo hi mx
  | .iaddr t x k => aIndexAddr P t x k H
  | .call f args => aCallV f args
  | .blk r b => .chk (H[r]? = some b) (.val (.tuple []))
def rdOf (s : Ch) : Op → Option Rd
  | .load t x => some (.load t (cev s x))
  | .slice t x lo hi mx => some (.slice t (cev s x) (lo.map (cev s)) (hi.map (cev s)) (mx.map (cev s)))
  | .indexAddr t x k => some (.iaddr t (cev s x) (cev s k))
  | .call ⟨.value f, args, _⟩ => some (.call (cev s f) (evs s args))
  | _ => none
theorem rdOf_ok {P : Program} {s : Ch} {H : Heap} {op : Op} {r : Rd} (h : rdOf s op = some r) : aop P s H op = r.run P H := by
  cases op <;> simp only [rdOf] at h <;> first | (cases h <;> rfl) | skip
  rename_i c
  obtain ⟨callee, args, ts⟩ := c
  cases callee <;> simp only at h <;> cases h <;> rfl
structure Pd where
  rd : Rd
  res : AV
  hi : Nat
def edgeB (o : Oper) (i : Nat) : Bool := o.after.any fun e => Region.binds .any e && e.on == i
theorem edgeB_iff {o : Oper} {i : Nat} : edgeB o i = true ↔ edge o i := by
  simp only [edgeB, edge, Array.any_eq_true', Bool.and_eq_true, beq_iff_eq]
def pAt (pl : List Pl) (i : Nat) : Pl := (pl[i]?).getD (.qu 0 0)
def nodePl (n : Nat) (ops : Array Oper) (pl : List Pl) (M : Nat) (j : Nat) (o : Oper) (p : Pl) : Bool :=
  dstOk n o && o.after.all (fun e => !Region.binds .any e || decide (e.on < j))
  && (List.range j).all (fun i => edgeB o i || match ops[i]? with | some oi => oi.apart ops o | none => true)
  && (p.lo == 0 || o.after.any fun e => Region.binds .any e && decide (p.lo ≤ (pAt pl e.on).af))
  && match p with
    | .mn r => r == cntM (pl.take j)
    | .qu lo hi => (opFree o.op || (lo == cntM (pl.take j) && hi == cntM (pl.take j))) && (decide (M ≤ hi) || (List.range ops.size).any fun k => decide (j < k) && match ops[k]? with | some ok => edgeB ok j && decide ((pAt pl k).hl ≤ hi) | none => false)
    | .rd lo hi => decide (hi ≤ M) && (decide (M ≤ hi) || (List.range ops.size).any fun k => decide (j < k) && match ops[k]? with | some ok => edgeB ok j && decide ((pAt pl k).hl ≤ hi) | none => false)
    | .gn _ lo hi => decide (hi ≤ M) && (decide (M ≤ hi) || (List.range ops.size).any fun k => decide (j < k) && match ops[k]? with | some ok => edgeB ok j && decide ((pAt pl k).hl ≤ hi) | none => false)
    | .gm _ lo hi => decide (hi ≤ M) && (decide (M ≤ hi) || (List.range ops.size).any fun k => decide (j < k) && match ops[k]? with | some ok => edgeB ok j && decide ((pAt pl k).hl ≤ hi) | none => false)
def planOk (n : Nat) (ops : Array Oper) (pl : List Pl) : Bool :=
  (ops.all noDef && pl.length == ops.size) && (List.range ops.size).all fun j => match ops[j]?, pl[j]? with
    | some o, some p => nodePl n ops pl (cntM pl) j o p
    | _, _ => false

theorem planOk_at {n : Nat} {ops : Array Oper} {pl : List Pl} (h : planOk n ops pl = true) {j : Nat} {o : Oper} (ho : ops[j]? = some o) : ∃ p, pl[j]? = some p ∧ nodePl n ops pl (cntM pl) j o p = true := by
  simp only [planOk, Bool.and_eq_true, List.all_eq_true, List.mem_range] at h
  have h1 := h.2 j (Array.getElem?_eq_some_iff.1 ho).1
  simp only [ho] at h1
  split at h1
  · rename_i o' p e1 e2
    cases e1
    exact ⟨p, e2, h1⟩
  · cases h1
theorem planOk_len {n : Nat} {ops : Array Oper} {pl : List Pl} (h : planOk n ops pl = true) : pl.length = ops.size := by
  simp only [planOk, Bool.and_eq_true, beq_iff_eq] at h
  exact h.1.2
theorem planOk_nodef {n : Nat} {ops : Array Oper} {pl : List Pl} (h : planOk n ops pl = true) : ops.all noDef = true := by
  simp only [planOk, Bool.and_eq_true] at h
  exact h.1.1

theorem cntM_append : ∀ (l l' : List Pl), cntM (l ++ l') = cntM l + cntM l'
  | [], l' => by simp [cntM]
  | .mn _ :: l, l' => by simp [cntM, cntM_append l l']; omega
  | .qu _ _ :: l, l' => by simp [cntM, cntM_append l l']
  | .rd _ _ :: l, l' => by simp [cntM, cntM_append l l']
  | .gn _ _ _ :: l, l' => by simp [cntM, cntM_append l l']
  | .gm _ _ _ :: l, l' => by simp [cntM, cntM_append l l']
theorem cntM_succ {pl : List Pl} {i : Nat} {p : Pl} (h : pl[i]? = some p) : cntM (pl.take (i + 1)) = cntM (pl.take i) + (if p.isM = true then 1 else 0) := by
  rw [List.take_add_one, h, cntM_append]
  cases p <;> simp [cntM, Pl.isM]
theorem cntM_mono {pl : List Pl} : ∀ {i j : Nat}, i ≤ j → cntM (pl.take i) ≤ cntM (pl.take j) := by
  intro i j h
  have : pl.take j = pl.take i ++ (pl.drop i).take (j - i) := by
    rw [← List.take_add]; congr 1; omega
  rw [this, cntM_append]
  omega
theorem cntM_surj {pl : List Pl} : ∀ (m r : Nat), r < cntM (pl.take m) → ∃ i p, pl[i]? = some p ∧ p.isM = true ∧ cntM (pl.take i) = r := by
  intro m
  induction m with
  | zero => intro r h; simp [cntM] at h
  | succ m ih =>
    intro r h
    cases hm : pl[m]? with
    | none =>
      rw [List.take_add_one, hm] at h
      exact ih r (by simpa using h)
    | some p =>
      rw [cntM_succ hm] at h
      by_cases hr : r < cntM (pl.take m)
      · exact ih r hr
      · split at h
        · rename_i hp
          exact ⟨m, p, hm, hp, by omega⟩
        · omega

/-! ### the evaluation -/
def pOk (P : Program) (r : Nat) (H : Heap) : List Pd → Prop
  | [] => True
  | p :: ps => (if r < p.hi then (p.rd.run P H).yields P H p.res else True) ∧ pOk P r H ps
def eOk (P : Program) (r : Rd) (v : AV) : List Heap → Prop
  | [] => True
  | h :: hs => (r.run P h).yields P h v ∧ eOk P r v hs
theorem pOk_mem {P : Program} {r : Nat} {H : Heap} : ∀ {l : List Pd}, pOk P r H l → ∀ p ∈ l, r < p.hi → (p.rd.run P H).yields P H p.res
  | p :: l, h, p', hp, hr => by
    rcases List.mem_cons.1 hp with rfl | hp
    · have := h.1; rw [if_pos hr] at this; exact this
    · exact pOk_mem h.2 p' hp hr
theorem eOk_get {P : Program} {r : Rd} {v : AV} : ∀ {l : List Heap}, eOk P r v l → ∀ h ∈ l, (r.run P h).yields P h v
  | a :: l, h, h', hp => by
    rcases List.mem_cons.1 hp with rfl | hp
    · exact h.1
    · exact eOk_get h.2 h' hp
def dBody (P : Program) (op : Op) (p : Pl) (s : Ch) (H : Heap) (hs : List Heap) (pd : List Pd) (K : AV → Heap → List Heap → List Pd → Prop) : Prop := match p with
  | .qu _ _ => ∃ v, (∀ H2, (aop P s H op).yields P H2 v) ∧ K v H hs pd
  | .rd lo hi => match rdOf s op with
    | some r => ∃ v, (r.run P H).yields P H v ∧ eOk P r v (hs.drop lo) ∧ K v H hs (⟨r, v, hi⟩ :: pd)
    | none => False
  | .mn r => ∃ v H', (aop P s H op).steps P H v H' ∧ pOk P r H' pd ∧ K v H' (hs ++ [H]) pd
  | .gn z _ _ => (∀ H2, (aop P s H2 op).nil0) ∧ K (.view true z []) H hs pd
  | .gm r lo hi => ∃ b len, opMat P s op b len ∧ H[r]? = some b ∧ eOk P (.blk r b) (.tuple []) (hs.drop lo) ∧ K (mval op r len) H hs (⟨.blk r b, .tuple [], hi⟩ :: pd)
def dSkip (P : Program) (p : Pl) (H : Heap) (hs : List Heap) (pd : List Pd) (K : AV → Heap → List Heap → List Pd → Prop) : Prop := match p with
  | .mn r => pOk P r H pd ∧ K (.tuple []) H (hs ++ [H]) pd
  | _ => K (.tuple []) H hs pd
def dwp (P : Program) (ops : Array Oper) : List Oper → List Pl → XQ → Ch → Heap → List Heap → List Pd → Prop
  | [], _, Q, s, H, _, _ => Q .normal s H
  | _ :: _, [], _, _, _, _, _ => False
  | o :: rest, p :: pl, Q, s, H, hs, pd => match o.guard with
    | none => dBody P o.op p s H hs pd fun v H' hs' pd' => dwp P ops rest pl Q (s.put? o.dst v) H' hs' pd'
    | some (j, want) => gk (gval ops s j) want (dBody P o.op p s H hs pd fun v H' hs' pd' => dwp P ops rest pl Q (s.put? o.dst v) H' hs' pd')
        (dSkip P p H hs pd fun v H' hs' pd' => dwp P ops rest pl Q (s.put? o.dst v) H' hs' pd')

section
variable {P : Program} {n : Nat} {D : Fx} {ops : Array Oper} {pl : List Pl} {Q : XQ}
def lows (pl : List Pl) (i : Nat) : Nat := (pAt pl i).lo
def his (pl : List Pl) (i : Nat) : Nat := (pAt pl i).hi
def isMs (pl : List Pl) (i : Nat) : Bool := (pAt pl i).isM
def NodeG (P : Program) (ops : Array Oper) (G : Nat → GK) (S : Nat → Ch) (V : Nat → AV) (HV : Nat → Heap) (lo hi : Nat → Nat) (isM : Nat → Bool) (i : Nat) (o : Oper) : Prop := match o.guard with
    | none => nodeOk P G S V HV lo hi isM i o
    | some (j, want) => gk (gval ops (S i) j) want (nodeOk P G S V HV lo hi isM i o) (V i = .tuple [] ∧ (isM i = true → HV (lo i + 1) = HV (lo i)))

theorem pAt_eq {pl : List Pl} {i : Nat} {p : Pl} (h : pl[i]? = some p) : pAt pl i = p := by simp [pAt, h]

theorem NodeG.congr {G G' : Nat → GK} {S S' : Nat → Ch} {V V' : Nat → AV} {HV : Nat → Heap} {lo hi : Nat → Nat} {isM : Nat → Bool} {i : Nat} {o : Oper} (h : NodeG P ops G S V HV lo hi isM i o) (h1 : S' i = S i) (h2 : V' i = V i) (h3 : G' i = G i) : NodeG P ops G' S' V' HV lo hi isM i o := by
  unfold NodeG nodeOk at *
  rw [h1, h2, h3]
  exact h

structure Cert (P : Program) (ops : Array Oper) (pl : List Pl) (Q : XQ) (k : Nat) (s : Ch) (H : Heap) (hs : List Heap) (pd : List Pd) (S : Nat → Ch) (V : Nat → AV) (HV : Nat → Heap) (G : Nat → GK) : Prop where
  fs : S k = s
  fh : HV hs.length = H
  fhs : ∀ (j : Nat) (h : Heap), hs[j]? = some h → HV j = h
  node : ∀ (i : Nat) (o : Oper), k ≤ i → ops[i]? = some o → S (i + 1) = (S i).put? o.dst (V i) ∧ NodeG P ops G S V HV (lows pl) (his pl) (isMs pl) i o
  fpd : ∀ p ∈ pd, ∀ q, hs.length < q → q ≤ p.hi → (p.rd.run P (HV q)).yields P (HV q) p.res
  fq : Q .normal (S ops.size) (HV (cntM pl))
  gq : ∀ i r b len, k ≤ i → G i = .mt r b len → ∃ lo hi, pAt pl i = .gm r lo hi

theorem dwp_cert (hpl : planOk n ops pl = true) : ∀ (m k : Nat) (s : Ch) (H : Heap) (hs : List Heap) (pd : List Pd), k + m = ops.size → hs.length = cntM (pl.take k) → (∀ p ∈ pd, p.hi ≤ cntM pl) → dwp P ops (ops.toList.drop k) (pl.drop k) Q s H hs pd →
    ∃ S V HV G, Cert P ops pl Q k s H hs pd S V HV G := by
  intro m
  induction m with
  | zero =>
    intro k s H hs pd hk hr hpd h
    have hlen := planOk_len hpl
    have : ops.toList.drop k = [] := by simp; omega
    rw [this] at h
    have hc : cntM pl = hs.length := by rw [hr, List.take_of_length_le (by omega)]
    refine ⟨fun _ => s, fun _ => .any, fun j => (hs[j]?).getD H, fun _ => .no, rfl, by simp, fun j h hj => by simp [hj], fun i o hi ho => ?_, fun p hp q h1 h2 => ?_, ?_, fun i r b len _ h => by cases h⟩
    · have := (Array.getElem?_eq_some_iff.1 ho).1
      omega
    · have := hpd p hp
      omega
    · simpa [hc, dwp] using h
  | succ m ih =>
    intro k s H hs pd hk hr hpd h
    have hlt : k < ops.size := by omega
    have ho : ops[k]? = some ops[k] := Array.getElem?_eq_getElem hlt
    obtain ⟨p, hp, hnp⟩ := planOk_at hpl ho
    have hlen := planOk_len hpl
    have hcons : ops.toList.drop k = ops[k] :: ops.toList.drop (k + 1) := by
      rw [List.drop_eq_getElem_cons (by simpa using hlt)]; simp
    have hcons' : pl.drop k = p :: pl.drop (k + 1) := by
      rw [List.drop_eq_getElem_cons (by omega)]
      rw [List.getElem?_eq_getElem (by omega)] at hp
      cases hp
      rfl
    rw [hcons, hcons'] at h
    generalize hok : ops[k] = o at *
    have hpa := pAt_eq hp
    have hcs := cntM_succ hp
    have hne : ∀ i, k + 1 ≤ i → i ≠ k := fun i hi => by omega
    /- how a certificate of the rest becomes one of all -/
    have glue : ∀ (v : AV) (H' : Heap) (hs' : List Heap) (pd' : List Pd) (S : Nat → Ch) (V : Nat → AV) (HV : Nat → Heap) (G : Nat → GK) (g : GK), Cert P ops pl Q (k + 1) (s.put? o.dst v) H' hs' pd' S V HV G → (∀ r b len, g = .mt r b len → ∃ lo hi, pAt pl k = .gm r lo hi) →
        HV hs.length = H → (∀ j h, hs[j]? = some h → HV j = h) → (∀ p ∈ pd, ∀ q, hs.length < q → q ≤ p.hi → (p.rd.run P (HV q)).yields P (HV q) p.res) →
        NodeG P ops (fun i => if i = k then g else G i) (fun i => if i = k then s else S i) (fun i => if i = k then v else V i) HV (lows pl) (his pl) (isMs pl) k o → ∃ S V HV G, Cert P ops pl Q k s H hs pd S V HV G := by
      intro v H' hs' pd' S V HV G g c gg g1 g2 g3 g4
      refine ⟨fun i => if i = k then s else S i, fun i => if i = k then v else V i, HV, fun i => if i = k then g else G i, by simp, g1, g2, fun i oi hi hoi => ?_, g3, ?_, fun i r b len hi h => ?_⟩
      · by_cases e : i = k
        · subst e
          rw [ho] at hoi
          cases hoi
          refine ⟨?_, g4⟩
          simp [c.fs]
        · have := c.node i oi (by omega) hoi
          refine ⟨by simp [e, show i + 1 ≠ k by omega, this.1], this.2.congr (by simp [e]) (by simp [e]) (by simp [e])⟩
      · simp only [show ops.size ≠ k by omega, if_false]
        exact c.fq
      · by_cases e : i = k
        · subst e
          simp only [if_true] at h
          exact gg r b len h
        · simp only [e, if_false] at h
          exact c.gq i r b len (by omega) h
    have body : dBody P o.op p s H hs pd (fun v H' hs' pd' => dwp P ops (ops.toList.drop (k + 1)) (pl.drop (k + 1)) Q (s.put? o.dst v) H' hs' pd') →
        (∀ S V HV G, S k = s → nodeOk P G S V HV (lows pl) (his pl) (isMs pl) k o → NodeG P ops G S V HV (lows pl) (his pl) (isMs pl) k o) → ∃ S V HV G, Cert P ops pl Q k s H hs pd S V HV G := by
      intro hb hng
      simp only [nodePl, Bool.and_eq_true] at hnp
      cases p with
      | qu lo hi =>
        obtain ⟨v, hy, hK⟩ := hb
        obtain ⟨S, V, HV, G, c⟩ := ih (k + 1) _ _ _ _ (by omega) (by simpa [Pl.isM] using hr.trans (by rw [hcs]; simp [Pl.isM])) hpd hK
        refine glue v H hs pd S V HV G .no c nofun c.fh c.fhs c.fpd (hng _ _ _ _ (by simp) ?_)
        have e1 : isMs pl k = false := by simp [isMs, hpa, Pl.isM]
        unfold nodeOk
        rw [if_neg (by simp [e1])]
        intro q h1 h2
        simp only [if_true, softOk]
        have hf : (opFree o.op || (lo == cntM (pl.take k) && hi == cntM (pl.take k))) = true := by
          have := hnp.2; simp only [Bool.and_eq_true] at this; exact this.1
        simp only [Bool.or_eq_true, Bool.and_eq_true, beq_iff_eq] at hf
        rcases hf with hf | ⟨hf1, hf2⟩
        · rw [opFree_heap hf _ H]; exact hy _
        · have : q = hs.length := by
            simp only [lows, his, hpa, Pl.lo, Pl.hi] at h1 h2
            omega
          rw [this, c.fh]; exact hy _
      | rd lo hi =>
        simp only [dBody] at hb
        split at hb
        · rename_i rdd hop
          obtain ⟨v, hy, he, hK⟩ := hb
          have hh : hi ≤ cntM pl := by
            have := hnp.2; simp only [Bool.and_eq_true, decide_eq_true_eq] at this; exact this.1
          obtain ⟨S, V, HV, G, c⟩ := ih (k + 1) _ _ _ _ (by omega) (by simpa [Pl.isM] using hr.trans (by rw [hcs]; simp [Pl.isM])) (by
            intro p hp
            rcases List.mem_cons.1 hp with rfl | hp
            · exact hh
            · exact hpd p hp) hK
          refine glue v H hs _ S V HV G .no c nofun c.fh c.fhs (fun p hp => c.fpd p (List.mem_cons_of_mem _ hp)) (hng _ _ _ _ (by simp) ?_)
          have e1 : isMs pl k = false := by simp [isMs, hpa, Pl.isM]
          unfold nodeOk
          rw [if_neg (by simp [e1])]
          intro q h1 h2
          simp only [if_true, softOk, rdOf_ok hop]
          simp only [lows, his, hpa, Pl.lo, Pl.hi] at h1 h2
          rcases Nat.lt_trichotomy q hs.length with h3 | h3 | h3
          · have hq : hs[q]? = some hs[q] := List.getElem?_eq_getElem h3
            rw [c.fhs q _ hq]
            refine eOk_get he _ ?_
            have : (hs.drop lo)[q - lo]? = some hs[q] := by
              rw [List.getElem?_drop, show lo + (q - lo) = q by omega]; exact hq
            exact List.mem_of_getElem? this
          · rw [h3, c.fh]; exact hy
          · exact c.fpd _ (List.mem_cons_self ..) q h3 h2
        · exact hb.elim
      | gn z lo hi =>
        obtain ⟨hy, hK⟩ := hb
        obtain ⟨S, V, HV, G, c⟩ := ih (k + 1) _ _ _ _ (by omega) (by simpa [Pl.isM] using hr.trans (by rw [hcs]; simp [Pl.isM])) hpd hK
        refine glue _ H hs pd S V HV G .nl c nofun c.fh c.fhs c.fpd (hng _ _ _ _ (by simp) ?_)
        have e1 : isMs pl k = false := by simp [isMs, hpa, Pl.isM]
        unfold nodeOk
        rw [if_neg (by simp [e1])]
        intro q h1 h2
        simp only [if_true, softOk]
        exact ⟨hy _, z, rfl⟩
      | gm rr lo hi =>
        obtain ⟨b, len, hy, hbr, he, hK⟩ := hb
        have hh : hi ≤ cntM pl := by
          have := hnp.2; simp only [Bool.and_eq_true, decide_eq_true_eq] at this; exact this.1
        obtain ⟨S, V, HV, G, c⟩ := ih (k + 1) _ _ _ _ (by omega) (by simpa [Pl.isM] using hr.trans (by rw [hcs]; simp [Pl.isM])) (by
          intro p hp
          rcases List.mem_cons.1 hp with rfl | hp
          · exact hh
          · exact hpd p hp) hK
        refine glue _ H hs _ S V HV G (.mt rr b len) c (fun r b' l' h => by cases h; exact ⟨lo, hi, hpa⟩) c.fh c.fhs (fun p hp => c.fpd p (List.mem_cons_of_mem _ hp)) (hng _ _ _ _ (by simp) ?_)
        have e1 : isMs pl k = false := by simp [isMs, hpa, Pl.isM]
        unfold nodeOk
        rw [if_neg (by simp [e1])]
        intro q h1 h2
        simp only [if_true, softOk]
        refine ⟨hy, ?_, trivial⟩
        simp only [lows, his, hpa, Pl.lo, Pl.hi] at h1 h2
        rcases Nat.lt_trichotomy q hs.length with h3 | h3 | h3
        · have hq : hs[q]? = some hs[q] := List.getElem?_eq_getElem h3
          rw [c.fhs q _ hq]
          have := eOk_get he hs[q] (by
            have : (hs.drop lo)[q - lo]? = some hs[q] := by
              rw [List.getElem?_drop, show lo + (q - lo) = q by omega]; exact hq
            exact List.mem_of_getElem? this)
          exact this.1
        · rw [h3, c.fh]; exact hbr
        · exact (c.fpd _ (List.mem_cons_self ..) q h3 h2).1
      | mn r =>
        obtain ⟨v, H', hst, hpo, hK⟩ := hb
        have hrr : r = hs.length := by
          have := hnp.2
          simp only [beq_iff_eq] at this
          omega
        obtain ⟨S, V, HV, G, c⟩ := ih (k + 1) _ _ _ _ (by omega) (by rw [List.length_append, hcs, hr]; simp [Pl.isM]) hpd hK
        have hH : HV hs.length = H := c.fhs _ _ (by simp)
        have hH' : HV (hs.length + 1) = H' := by have := c.fh; simpa using this
        refine glue v H' _ pd S V HV G .no c nofun hH (fun j h hj => c.fhs j h (by
          rw [List.getElem?_append_left (List.getElem?_eq_some_iff.1 hj).1]; exact hj)) (fun p hp q h1 h2 => ?_) (hng _ _ _ _ (by simp) ?_)
        · rcases Nat.lt_or_ge (hs.length + 1) q with h3 | h3
          · exact c.fpd p hp q (by simpa using h3) h2
          · have : q = hs.length + 1 := by omega
            subst this
            rw [hH']
            exact pOk_mem hpo p hp (by omega)
        · have e1 : isMs pl k = true := by simp [isMs, hpa, Pl.isM]
          unfold nodeOk
          rw [if_pos e1]
          simp only [if_true, lows, hpa, Pl.lo, hrr, hH, hH']
          exact hst
    have skip : dSkip P p H hs pd (fun v H' hs' pd' => dwp P ops (ops.toList.drop (k + 1)) (pl.drop (k + 1)) Q (s.put? o.dst v) H' hs' pd') →
        (∀ S V HV G, S k = s → V k = .tuple [] → (isMs pl k = true → HV (lows pl k + 1) = HV (lows pl k)) → NodeG P ops G S V HV (lows pl) (his pl) (isMs pl) k o) → ∃ S V HV G, Cert P ops pl Q k s H hs pd S V HV G := by
      intro hb hng
      simp only [nodePl, Bool.and_eq_true] at hnp
      cases p with
      | qu lo hi =>
        obtain ⟨S, V, HV, G, c⟩ := ih (k + 1) _ _ _ _ (by omega) (by simpa [Pl.isM] using hr.trans (by rw [hcs]; simp [Pl.isM])) hpd hb
        refine glue (.tuple []) H hs pd S V HV G .no c nofun c.fh c.fhs c.fpd (hng _ _ _ _ (by simp) (by simp) ?_)
        intro e; simp [isMs, hpa, Pl.isM] at e
      | rd lo hi =>
        obtain ⟨S, V, HV, G, c⟩ := ih (k + 1) _ _ _ _ (by omega) (by simpa [Pl.isM] using hr.trans (by rw [hcs]; simp [Pl.isM])) hpd hb
        refine glue (.tuple []) H hs pd S V HV G .no c nofun c.fh c.fhs c.fpd (hng _ _ _ _ (by simp) (by simp) ?_)
        intro e; simp [isMs, hpa, Pl.isM] at e
      | gn z lo hi =>
        obtain ⟨S, V, HV, G, c⟩ := ih (k + 1) _ _ _ _ (by omega) (by simpa [Pl.isM] using hr.trans (by rw [hcs]; simp [Pl.isM])) hpd hb
        refine glue (.tuple []) H hs pd S V HV G .no c nofun c.fh c.fhs c.fpd (hng _ _ _ _ (by simp) (by simp) ?_)
        intro e; simp [isMs, hpa, Pl.isM] at e
      | gm rr lo hi =>
        obtain ⟨S, V, HV, G, c⟩ := ih (k + 1) _ _ _ _ (by omega) (by simpa [Pl.isM] using hr.trans (by rw [hcs]; simp [Pl.isM])) hpd hb
        refine glue (.tuple []) H hs pd S V HV G .no c nofun c.fh c.fhs c.fpd (hng _ _ _ _ (by simp) (by simp) ?_)
        intro e; simp [isMs, hpa, Pl.isM] at e
      | mn r =>
        obtain ⟨hpo, hK⟩ := hb
        have hrr : r = hs.length := by
          have := hnp.2
          simp only [beq_iff_eq] at this
          omega
        obtain ⟨S, V, HV, G, c⟩ := ih (k + 1) _ _ _ _ (by omega) (by rw [List.length_append, hcs, hr]; simp [Pl.isM]) hpd hK
        have hH : HV hs.length = H := c.fhs _ _ (by simp)
        have hH' : HV (hs.length + 1) = H := by have := c.fh; simpa using this
        refine glue (.tuple []) H _ pd S V HV G .no c nofun hH (fun j h hj => c.fhs j h (by
          rw [List.getElem?_append_left (List.getElem?_eq_some_iff.1 hj).1]; exact hj)) (fun p hp q h1 h2 => ?_) (hng _ _ _ _ (by simp) (by simp) ?_)
        · rcases Nat.lt_or_ge (hs.length + 1) q with h3 | h3
          · exact c.fpd p hp q (by simpa using h3) h2
          · have : q = hs.length + 1 := by omega
            subst this
            rw [hH']
            exact pOk_mem hpo p hp (by omega)
        · intro _
          simp only [lows, hpa, Pl.lo, hrr, hH, hH']
    simp only [dwp] at h
    split at h
    · rename_i hg
      exact body h fun S V HV G _ hn => by unfold NodeG; simp only [hg]; exact hn
    · rename_i j want hg
      unfold gk at h
      split at h
      · rename_i b hb
        split at h
        · rename_i hbw
          exact body h fun S V HV G hS hn => by unfold NodeG; simp only [hg, hS, hb, gk, hbw, if_true]; exact hn
        · rename_i hbw
          exact skip h fun S V HV G hS hV hn => by unfold NodeG; simp only [hg, hS, hb, gk, hbw, if_false]; exact ⟨hV, hn⟩
      · rename_i hb
        exact skip h fun S V HV G hS hV hn => by unfold NodeG; simp only [hg, hS, hb, gk]; exact ⟨hV, hn⟩
      · exact h.elim

/-- Each number is kept for one operation. -/
def gmOk (lo hi : Nat) : List Pl → List Nat → Bool
  | [], _ => true
  | .gm r _ _ :: l, used => decide (lo ≤ r) && decide (r < hi) && !used.contains r && gmOk lo hi l (r :: used)
  | _ :: l, used => gmOk lo hi l used
theorem gmOk_get {lo hi : Nat} : ∀ {l : List Pl} {used : List Nat}, gmOk lo hi l used = true → ∀ {i r a b : Nat}, l[i]? = some (.gm r a b) → lo ≤ r ∧ r < hi ∧ r ∉ used
  | [], _, _, i, r, a, b, h => by simp at h
  | p :: l, used, hg, i, r, a, b, h => by
    have key : ∀ used', gmOk lo hi l used' = true → (∀ x ∈ used, x ∈ used') → ∀ i : Nat, l[i]? = some (Pl.gm r a b) → lo ≤ r ∧ r < hi ∧ r ∉ used := fun used' h1 h2 i h3 => by
      obtain ⟨a1, a2, a3⟩ := gmOk_get h1 h3
      exact ⟨a1, a2, fun hm => a3 (h2 _ hm)⟩
    cases i with
    | zero =>
      simp at h
      subst h
      simp only [gmOk, Bool.and_eq_true, decide_eq_true_eq, Bool.not_eq_true', List.contains_eq_mem, decide_eq_false_iff_not] at hg
      exact ⟨hg.1.1.1, hg.1.1.2, hg.1.2⟩
    | succ i =>
      simp only [List.getElem?_cons_succ] at h
      cases p with
      | gm r' a' b' =>
        simp only [gmOk, Bool.and_eq_true] at hg
        exact key _ hg.2 (fun x hx => List.mem_cons_of_mem _ hx) i h
      | _ => exact key used (by simpa [gmOk] using hg) (fun x hx => hx) i h
theorem gmOk_inj {lo hi : Nat} : ∀ {l : List Pl} {used : List Nat}, gmOk lo hi l used = true → ∀ {i j r a b a' b' : Nat}, l[i]? = some (.gm r a b) → l[j]? = some (.gm r a' b') → i = j
  | [], _, _, i, j, r, a, b, a', b', h, _ => by simp at h
  | p :: l, used, hg, i, j, r, a, b, a', b', h, h' => by
    cases i with
    | zero =>
      simp at h
      subst h
      simp only [gmOk, Bool.and_eq_true] at hg
      cases j with
      | zero => rfl
      | succ j =>
        simp only [List.getElem?_cons_succ] at h'
        exact absurd (List.mem_cons_self ..) (gmOk_get hg.2 h').2.2
    | succ i =>
      simp only [List.getElem?_cons_succ] at h
      cases j with
      | zero =>
        simp at h'
        subst h'
        simp only [gmOk, Bool.and_eq_true] at hg
        exact absurd (List.mem_cons_self ..) (gmOk_get hg.2 h).2.2
      | succ j =>
        simp only [List.getElem?_cons_succ] at h'
        cases p with
        | gm r' a'' b'' =>
          simp only [gmOk, Bool.and_eq_true] at hg
          exact congrArg _ (gmOk_inj hg.2 h h')
        | _ => exact congrArg _ (gmOk_inj (used := used) (by simpa [gmOk] using hg) h h')
theorem draw_anyG {s : Ch} {H : Heap} (gs : List Blk) (pl : List Pl) (hpl : planOk n ops pl = true) (hgm : gmOk H.length (H.length + gs.length) pl [] = true) (h : dwp P ops ops.toList pl Q s (H ++ gs) [] []) : SAny P n D ops Q s H := by
  obtain ⟨S, V, HV, G, c⟩ := dwp_cert hpl ops.size 0 s (H ++ gs) [] [] (by omega) (by simp [cntM]) (by simp) (by simpa using h)
  have hlen := planOk_len hpl
  have key : ∀ (i : Nat) (o : Oper), ops[i]? = some o → ∃ p, pl[i]? = some p ∧ pAt pl i = p ∧ nodePl n ops pl (cntM pl) i o p = true := fun i o ho => by
    obtain ⟨p, h1, h2⟩ := planOk_at hpl ho
    exact ⟨p, h1, pAt_eq h1, h2⟩
  have mn : ∀ i, isMs pl i = true → ∃ p, pl[i]? = some p ∧ i < ops.size ∧ p.isM = true ∧ lows pl i = cntM (pl.take i) := by
    intro i hi
    cases hp : pl[i]? with
    | none => simp [isMs, pAt, hp, Pl.isM] at hi
    | some p =>
      have hlt : i < ops.size := by rw [← hlen]; exact (List.getElem?_eq_some_iff.1 hp).1
      obtain ⟨p', h1, h2, h3⟩ := key i _ (Array.getElem?_eq_getElem hlt)
      rw [hp] at h1
      cases h1
      simp only [isMs, h2] at hi
      refine ⟨p, rfl, hlt, hi, ?_⟩
      cases p with
      | mn r =>
        simp only [nodePl, Bool.and_eq_true, beq_iff_eq] at h3
        simp [lows, h2, Pl.lo, h3.2]
      | qu => cases hi
      | rd => cases hi
      | gn => cases hi
      | gm => cases hi
  have d : Drawn P n ops G S V HV (lows pl) (his pl) (isMs pl) (cntM pl) := by
    refine ⟨fun i o ho => (c.node i o (Nat.zero_le _) ho).1, fun i o ho => ?_, fun i j oi oj hij hoi hoj => ?_, fun j oj hoj i he => ?_, fun i o ho => ?_, fun i o ho hM => ?_, fun i j hi hj hij => ?_, fun i hi => ?_, fun r hr => ?_, fun i o ho => (c.node i o (Nat.zero_le _) ho).2⟩
    · obtain ⟨p, _, _, h3⟩ := key i o ho
      simp only [nodePl, Bool.and_eq_true] at h3
      exact h3.1.1.1.1
    · obtain ⟨p, _, _, h3⟩ := key j oj hoj
      simp only [nodePl, Bool.and_eq_true, List.all_eq_true, List.mem_range] at h3
      have := h3.1.1.2 i hij
      simp only [hoi, Bool.or_eq_true] at this
      exact this.imp edgeB_iff.1 (fun h => h)
    · obtain ⟨p, _, _, h3⟩ := key j oj hoj
      simp only [nodePl, Bool.and_eq_true] at h3
      obtain ⟨e, he, hb, rfl⟩ := he
      have := Array.all_eq_true_iff_forall_mem.1 h3.1.1.1.2 e he
      simpa [hb] using this
    · obtain ⟨p, _, h2, h3⟩ := key i o ho
      simp only [nodePl, Bool.and_eq_true, Bool.or_eq_true, beq_iff_eq] at h3
      rcases h3.1.2 with h | h
      · left; simp [lows, h2, h]
      · right
        obtain ⟨e, he, hb⟩ := Array.any_eq_true'.1 h
        simp only [Bool.and_eq_true, decide_eq_true_eq] at hb
        refine ⟨e.on, ⟨e, he, hb.1, rfl⟩, ?_⟩
        have h5 := hb.2
        unfold Pl.af at h5
        unfold lows isMs
        rw [h2]
        split <;> rename_i hm' <;> simp only [hm'] at h5 <;> simpa using h5
    · obtain ⟨p, _, h2, h3⟩ := key i o ho
      have hih : his pl i = p.hi := by simp [his, h2]
      have hh : (decide (cntM pl ≤ p.hi) || (List.range ops.size).any fun k => decide (i < k) && match ops[k]? with | some ok => edgeB ok i && decide ((pAt pl k).hl ≤ p.hi) | none => false) = true := by
        simp only [isMs, h2] at hM
        cases p with
        | qu lo hi => simp only [nodePl, Bool.and_eq_true] at h3; exact h3.2.2
        | rd lo hi => simp only [nodePl, Bool.and_eq_true] at h3; exact h3.2.2
        | gn z lo hi => simp only [nodePl, Bool.and_eq_true] at h3; exact h3.2.2
        | gm r lo hi => simp only [nodePl, Bool.and_eq_true] at h3; exact h3.2.2
        | mn r => cases hM
      simp only [Bool.or_eq_true, decide_eq_true_eq, List.any_eq_true, List.mem_range, Bool.and_eq_true] at hh
      rw [hih]
      rcases hh with hh | ⟨k, hk, hik, hh⟩
      · exact .inl hh
      · rw [Array.getElem?_eq_getElem hk] at hh
        simp only [Bool.and_eq_true, decide_eq_true_eq] at hh
        refine .inr ⟨k, ops[k], hik, Array.getElem?_eq_getElem hk, edgeB_iff.1 hh.1, ?_⟩
        have := hh.2
        unfold Pl.hl at this
        unfold isMs lows his
        split <;> rename_i hm' <;> simp only [hm'] at this <;> simpa using this
    · obtain ⟨p, h1, h2, h3, h4⟩ := mn i hi
      obtain ⟨p', g1, g2, g3, g4⟩ := mn j hj
      have a := cntM_succ h1
      have b := cntM_succ g1
      rw [if_pos h3] at a
      rw [if_pos g3] at b
      rcases Nat.lt_trichotomy i j with h | h | h
      · have := cntM_mono (pl := pl) (show i + 1 ≤ j from h); omega
      · exact h
      · have := cntM_mono (pl := pl) (show j + 1 ≤ i from h); omega
    · obtain ⟨p, h1, h2, h3, h4⟩ := mn i hi
      refine ⟨?_, h2⟩
      have a := cntM_succ h1
      rw [if_pos h3] at a
      have := cntM_mono (pl := pl) (show i + 1 ≤ pl.length by omega)
      rw [List.take_length] at this
      omega
    · obtain ⟨i, p, h1, h2, h3⟩ := cntM_surj (pl := pl) pl.length r (by rw [List.take_length]; exact hr)
      have : isMs pl i = true := by simp [isMs, pAt_eq h1, h2]
      obtain ⟨p', g1, g2, g3, g4⟩ := mn i this
      exact ⟨i, this, by omega⟩
  have hH : HV 0 = H ++ gs := c.fh
  have hat : ∀ i r b len, G i = .mt r b len → ∃ a e, pl[i]? = some (.gm r a e) := fun i r b len hi => by
    obtain ⟨a, e, he⟩ := c.gq i r b len (Nat.zero_le _) hi
    refine ⟨a, e, ?_⟩
    unfold pAt at he
    cases hp : pl[i]? with
    | none => rw [hp] at he; cases he
    | some p => rw [hp] at he; simp at he; rw [he]
  have := drawn_sound (D := D) d (Q := Q) c.fq gs hH (fun i r b len hi => by
    obtain ⟨a, e, he⟩ := hat i r b len hi
    obtain ⟨k1, k2, _⟩ := gmOk_get hgm he
    rw [hH, List.length_append]
    exact ⟨k2, k1⟩) (fun i j r b len b' len' hi hj => by
    obtain ⟨a, e, he⟩ := hat i r b len hi
    obtain ⟨a', e', he'⟩ := hat j r b' len' hj
    exact gmOk_inj hgm he he')
  rw [c.fs] at this
  exact this
def noG (l : List Pl) : Bool := l.all fun p => match p with | .gm _ _ _ => false | _ => true
theorem gmOk_no {lo hi : Nat} : ∀ {l : List Pl} {used : List Nat}, noG l = true → gmOk lo hi l used = true
  | [], _, _ => rfl
  | p :: l, used, h => by
    simp only [noG, List.all_cons, Bool.and_eq_true] at h
    cases p with
    | gm => exact absurd h.1 (by simp)
    | _ => simpa [gmOk] using gmOk_no (used := used) h.2
theorem draw_any {s : Ch} {H : Heap} (pl : List Pl) (hpl : (planOk n ops pl && noG pl) = true) (h : dwp P ops ops.toList pl Q s H [] []) : SAny P n D ops Q s H := by
  simp only [Bool.and_eq_true] at hpl
  exact draw_anyG [] pl hpl.1 (gmOk_no hpl.2) (by simpa using h)
theorem draw_intro {id : Nat} {s : Ch} {H : Heap} (pl : List Pl) (hpl : (planOk n ops pl && noG pl) = true) (hm : P.follows .mixedOrders = true) (h : dwp P ops ops.toList pl Q s H [] []) : SWp P n D (.region id ops true) Q s H :=
  (draw_any pl hpl h).region hm (by simp only [Bool.and_eq_true] at hpl; exact planOk_nodef hpl.1)
end
end Go.AM

set_option linter.unusedVariables false
set_option linter.unusedSimpArgs false
namespace Go.AM

section
variable {P : Program} {ops : Array Oper} {d : Option Tmp} {dd : Tmp} {op : Op} {ty t : TypeId} {pos : String} {af : Array Edge} {rest : List Oper} {Q : XQ} {s : Ch} {H H' : Heap} {j : Nat} {want : Bool} {v x : AV} {b : Blk} {n : Nat} {D : Fx} {p : Pl} {pl : List Pl} {hs : List Heap} {pd : List Pd} {lo hi k : Nat} {r : AR} {y : Operand} {h : Heap} {rd : Rd}
def dN (P : Program) (ops : Array Oper) (op : Op) (p : Pl) (d : Option Tmp) (rest : List Oper) (pl : List Pl) (Q : XQ) (s : Ch) (H : Heap) (hs : List Heap) (pd : List Pd) : Prop :=
  dBody P op p s H hs pd fun v H' hs' pd' => dwp P ops rest pl Q (s.put? d v) H' hs' pd'
def dSk (P : Program) (ops : Array Oper) (p : Pl) (d : Option Tmp) (rest : List Oper) (pl : List Pl) (Q : XQ) (s : Ch) (H : Heap) (hs : List Heap) (pd : List Pd) : Prop :=
  dSkip P p H hs pd fun v H' hs' pd' => dwp P ops rest pl Q (s.put? d v) H' hs' pd'
def dG (P : Program) (ops : Array Oper) (v : AV) (want : Bool) (op : Op) (p : Pl) (d : Option Tmp) (rest : List Oper) (pl : List Pl) (Q : XQ) (s : Ch) (H : Heap) (hs : List Heap) (pd : List Pd) : Prop :=
  gk v want (dN P ops op p d rest pl Q s H hs pd) (dSk P ops p d rest pl Q s H hs pd)
def dQ (P : Program) (ops : Array Oper) (r : AR) (d : Option Tmp) (rest : List Oper) (pl : List Pl) (Q : XQ) (s : Ch) (H : Heap) (hs : List Heap) (pd : List Pd) : Prop :=
  ∃ v, (∀ H2, r.yields P H2 v) ∧ dwp P ops rest pl Q (s.put? d v) H hs pd
def dR (P : Program) (ops : Array Oper) (rd : Rd) (r : AR) (lo hi : Nat) (d : Option Tmp) (rest : List Oper) (pl : List Pl) (Q : XQ) (s : Ch) (H : Heap) (hs : List Heap) (pd : List Pd) : Prop :=
  ∃ v, r.yields P H v ∧ eOk P rd v (hs.drop lo) ∧ dwp P ops rest pl Q (s.put? d v) H hs (⟨rd, v, hi⟩ :: pd)
def dM (P : Program) (ops : Array Oper) (r : AR) (k : Nat) (d : Option Tmp) (rest : List Oper) (pl : List Pl) (Q : XQ) (s : Ch) (H : Heap) (hs : List Heap) (pd : List Pd) : Prop :=
  ∃ v H', r.steps P H v H' ∧ pOk P k H' pd ∧ dwp P ops rest pl Q (s.put? d v) H' (hs ++ [H]) pd
def dH (P : Program) (ops : Array Oper) (k : Nat) (v : AV) (d : Option Tmp) (rest : List Oper) (pl : List Pl) (Q : XQ) (s : Ch) (H : Heap) (hs : List Heap) (pd : List Pd) : Prop :=
  pOk P k H pd ∧ dwp P ops rest pl Q (s.put? d v) H hs pd

theorem d_nil : dwp P ops [] pl Q s H hs pd = Q .normal s H := id rfl
theorem d_none : dwp P ops (⟨d, op, ty, pos, af, none⟩ :: rest) (p :: pl) Q s H hs pd = dN P ops op p d rest pl Q s H hs pd := id rfl
theorem d_some : dwp P ops (⟨d, op, ty, pos, af, some (j, want)⟩ :: rest) (p :: pl) Q s H hs pd = dG P ops (gval ops s j) want op p d rest pl Q s H hs pd := id rfl
theorem dN_qu : dN P ops op (.qu lo hi) d rest pl Q s H hs pd = dQ P ops (aop P s H op) d rest pl Q s H hs pd := id rfl
theorem dN_rd : dN P ops (.load t y) (.rd lo hi) d rest pl Q s H hs pd = dR P ops (.load t (cev s y)) (aLoad P t (cev s y) H) lo hi d rest pl Q s H hs pd := id rfl
theorem dN_rds {x1 x2 x3 : Option Operand} : dN P ops (.slice t y x1 x2 x3) (.rd lo hi) d rest pl Q s H hs pd = dR P ops (.slice t (cev s y) (x1.map (cev s)) (x2.map (cev s)) (x3.map (cev s))) (aSlice P t (cev s y) H (x1.map (cev s)) (x2.map (cev s)) (x3.map (cev s))) lo hi d rest pl Q s H hs pd := id rfl
theorem dN_rdi {k : Operand} : dN P ops (.indexAddr t y k) (.rd lo hi) d rest pl Q s H hs pd = dR P ops (.iaddr t (cev s y) (cev s k)) (aIndexAddr P t (cev s y) (cev s k) H) lo hi d rest pl Q s H hs pd := id rfl
theorem dN_rdc {args : Array Operand} {ts : Array TypeId} : dN P ops (.call ⟨.value y, args, ts⟩) (.rd lo hi) d rest pl Q s H hs pd = dR P ops (.call (cev s y) (evs s args)) (aCallV (cev s y) (evs s args)) lo hi d rest pl Q s H hs pd := id rfl
theorem rd_call {xs : List AV} : (Rd.call x xs).run P H = aCallV x xs := id rfl
theorem y_callr {f : FuncId} {args : List AV} (hE : Enters P f) (hc : ACalls P f args H fun o H2 => o = .ret v ∧ H2 = H) (he : eOk P rd v (hs.drop lo)) (h : dwp P ops rest pl Q (s.put? d v) H hs (⟨rd, v, hi⟩ :: pd)) : dR P ops rd (.call f args) lo hi d rest pl Q s H hs pd := ⟨v, ⟨hE, hc⟩, he, h⟩
theorem rd_load : (Rd.load t x).run P H = aLoad P t x H := id rfl
theorem rd_slice {x1 x2 x3 : Option AV} : (Rd.slice t x x1 x2 x3).run P H = aSlice P t x H x1 x2 x3 := id rfl
theorem rd_iaddr {k : AV} : (Rd.iaddr t x k).run P H = aIndexAddr P t x k H := id rfl
theorem dN_mn : dN P ops op (.mn k) d rest pl Q s H hs pd = dM P ops (aop P s H op) k d rest pl Q s H hs pd := id rfl
theorem dG_same {b : Bool} : dG P ops (.bool b) b op p d rest pl Q s H hs pd = dN P ops op p d rest pl Q s H hs pd := by simp [dG, gk]
theorem dG_tf : dG P ops (.bool true) false op p d rest pl Q s H hs pd = dSk P ops p d rest pl Q s H hs pd := by simp [dG, gk]
theorem dG_ft : dG P ops (.bool false) true op p d rest pl Q s H hs pd = dSk P ops p d rest pl Q s H hs pd := by simp [dG, gk]
theorem dG_split {b : Bool} (h1 : b = want → dN P ops op p d rest pl Q s H hs pd) (h2 : b ≠ want → dSk P ops p d rest pl Q s H hs pd) : dG P ops (.bool b) want op p d rest pl Q s H hs pd := by
  unfold dG gk
  by_cases h : b = want
  · simp [h]; exact h1 h
  · simp [h]; exact h2 h
theorem dG_dec {p' : Prop} [Decidable p'] (h1 : p' → dG P ops (.bool true) want op p d rest pl Q s H hs pd) (h2 : ¬ p' → dG P ops (.bool false) want op p d rest pl Q s H hs pd) : dG P ops (.bool (decide p')) want op p d rest pl Q s H hs pd := by
  by_cases h : p'
  · simpa [h] using h1 h
  · simpa [h] using h2 h
theorem dG_bool {b : Bool} (h1 : b = true → dG P ops (.bool true) want op p d rest pl Q s H hs pd) (h2 : b = false → dG P ops (.bool false) want op p d rest pl Q s H hs pd) : dG P ops (.bool b) want op p d rest pl Q s H hs pd := by
  cases b
  · exact h2 rfl
  · exact h1 rfl
theorem dG_un : dG P ops (.tuple []) want op p d rest pl Q s H hs pd = dSk P ops p d rest pl Q s H hs pd := by simp [dG, gk]
theorem dSk_qu : dSk P ops (.qu lo hi) (some dd) rest pl Q s H hs pd = dwp P ops rest pl Q (s.put dd (.tuple [])) H hs pd := id rfl
theorem dSk_qun : dSk P ops (.qu lo hi) none rest pl Q s H hs pd = dwp P ops rest pl Q s H hs pd := id rfl
theorem dSk_rd : dSk P ops (.rd lo hi) (some dd) rest pl Q s H hs pd = dwp P ops rest pl Q (s.put dd (.tuple [])) H hs pd := id rfl
theorem dSk_mn : dSk P ops (.mn k) (some dd) rest pl Q s H hs pd = (pOk P k H pd ∧ dwp P ops rest pl Q (s.put dd (.tuple [])) H (hs ++ [H]) pd) := id rfl
theorem dSk_mnn : dSk P ops (.mn k) none rest pl Q s H hs pd = (pOk P k H pd ∧ dwp P ops rest pl Q s H (hs ++ [H]) pd) := id rfl
theorem y_val {u : AV} : (AR.val u).yields P H v = (u = v) := id rfl
theorem y_chk {q : Prop} : (AR.chk q r).yields P H v = (q ∧ r.yields P H v) := id rfl
theorem y_call {f : FuncId} {args : List AV} (hE : Enters P f) (hc : ∀ H, ACalls P f args H fun o H2 => o = .ret v ∧ H2 = H) (h : dwp P ops rest pl Q (s.put? d v) H hs pd) : dQ P ops (.call f args) d rest pl Q s H hs pd := ⟨v, fun H2 => ⟨hE, hc H2⟩, h⟩
theorem dQ_val : dQ P ops (.val v) (some dd) rest pl Q s H hs pd = dwp P ops rest pl Q (s.put dd v) H hs pd := by simp [dQ, AR.yields, Ch.put?]
theorem dQ_valn : dQ P ops (.val v) none rest pl Q s H hs pd = dwp P ops rest pl Q s H hs pd := by simp [dQ, AR.yields, Ch.put?]
theorem dQ_chk {q : Prop} : dQ P ops (.chk q r) d rest pl Q s H hs pd = (q ∧ dQ P ops r d rest pl Q s H hs pd) := by simp [dQ, AR.yields, forall_and, and_assoc]
theorem dQ_chkT : dQ P ops (.chk True r) d rest pl Q s H hs pd = dQ P ops r d rest pl Q s H hs pd := by simp [dQ_chk]
theorem dR_val : dR P ops rd (.val v) lo hi (some dd) rest pl Q s H hs pd = (eOk P rd v (hs.drop lo) ∧ dwp P ops rest pl Q (s.put dd v) H hs (⟨rd, v, hi⟩ :: pd)) := by simp [dR, AR.yields, Ch.put?]
theorem dR_chk {q : Prop} : dR P ops rd (.chk q r) lo hi d rest pl Q s H hs pd = (q ∧ dR P ops rd r lo hi d rest pl Q s H hs pd) := by simp [dR, AR.yields, and_assoc]
theorem dR_chkT : dR P ops rd (.chk True r) lo hi d rest pl Q s H hs pd = dR P ops rd r lo hi d rest pl Q s H hs pd := by simp [dR_chk]
theorem dM_val : dM P ops (.val v) k (some dd) rest pl Q s H hs pd = (pOk P k H pd ∧ dwp P ops rest pl Q (s.put dd v) H (hs ++ [H]) pd) := by simp [dM, AR.steps, Ch.put?, and_assoc]
theorem dM_valn : dM P ops (.val v) k none rest pl Q s H hs pd = (pOk P k H pd ∧ dwp P ops rest pl Q s H (hs ++ [H]) pd) := by simp [dM, AR.steps, Ch.put?, and_assoc]
theorem dM_chk {q : Prop} : dM P ops (.chk q r) k d rest pl Q s H hs pd = (q ∧ dM P ops r k d rest pl Q s H hs pd) := by simp [dM, AR.steps, and_assoc]
theorem dM_chkT : dM P ops (.chk True r) k d rest pl Q s H hs pd = dM P ops r k d rest pl Q s H hs pd := by simp [dM_chk]
theorem dM_alloc {f : Nat → AV} : dM P ops (.alloc b f) k d rest pl Q s H hs pd = dH P ops k (f H.length) d rest pl Q s (H ++ [b]) (hs ++ [H]) pd := by simp [dM, dH, AR.steps, and_assoc]
theorem dM_upd : dM P ops (.upd H' v) k d rest pl Q s H hs pd = dH P ops k v d rest pl Q s H' (hs ++ [H]) pd := by simp [dM, dH, AR.steps, and_assoc]
theorem dH_cons {hh : Heap} : dH P ops k v (some dd) rest pl Q s (b :: H) (hh :: hs) pd = (pOk P k (b :: H) pd ∧ dwp P ops rest pl Q (s.put dd v) (b :: H) (hh :: hs) pd) := id rfl
theorem dH_consn {hh : Heap} : dH P ops k v none rest pl Q s (b :: H) (hh :: hs) pd = (pOk P k (b :: H) pd ∧ dwp P ops rest pl Q s (b :: H) (hh :: hs) pd) := id rfl
theorem dH_nil {hh : Heap} : dH P ops k v (some dd) rest pl Q s [] (hh :: hs) pd = (pOk P k [] pd ∧ dwp P ops rest pl Q (s.put dd v) [] (hh :: hs) pd) := id rfl
theorem dH_niln {hh : Heap} : dH P ops k v none rest pl Q s [] (hh :: hs) pd = (pOk P k [] pd ∧ dwp P ops rest pl Q s [] (hh :: hs) pd) := id rfl
theorem dM_call {f : FuncId} {args : List AV} {v : AV} {H' : Heap} (hE : Enters P f) (hc : ACalls P f args H fun o H2 => o = .ret v ∧ H2 = H') (h : dH P ops k v d rest pl Q s H' (hs ++ [H]) pd) : dM P ops (.call f args) k d rest pl Q s H hs pd :=
  ⟨v, H', ⟨hE, hc⟩, h.1, h.2⟩
theorem pOk_nil : pOk P k H [] = True := id rfl
theorem pOk_cons : pOk P k H (⟨rd, v, hi⟩ :: pd) = ((if k < hi then (rd.run P H).yields P H v else True) ∧ pOk P k H pd) := id rfl
theorem eOk_nil : eOk P rd v [] = True := id rfl
theorem eOk_cons {hs : List Heap} : eOk P rd v (h :: hs) = ((rd.run P h).yields P h v ∧ eOk P rd v hs) := id rfl
theorem dN_gn {z : Nat} : dN P ops op (.gn z lo hi) d rest pl Q s H hs pd = ((∀ H2, (aop P s H2 op).nil0) ∧ dwp P ops rest pl Q (s.put? d (.view true z [])) H hs pd) := id rfl
theorem nil0_alloc {f : Nat → AV} : (AR.alloc b f).nil0 = ∀ k, f k = .sl k 0 0 (some 0) := id rfl
theorem nil0_chk {q : Prop} : (AR.chk q r).nil0 = (q ∧ r.nil0) := id rfl
theorem opMat_eq {s : Ch} {args : Array Operand} {ts : Array TypeId} {len : Nat} : opMat P s (.call ⟨.builtin .append, args, ts⟩) b len = (match ts.toList, evs s args with
    | [t, t2], [x, y] => aMat P t t2 x y b len
    | _, _ => False) := id rfl
theorem rd_blk {r : Nat} : (Rd.blk r b).run P H = .chk (H[r]? = some b) (.val (.tuple [])) := id rfl
theorem mval_call {c : Call} {r len : Nat} : mval (.call c) r len = .sl r 0 len none := id rfl
theorem mval_alloc {t : TypeId} {r len : Nat} : mval (.alloc t) r len = .ptr r 0 0 := id rfl
theorem y_gm {r len : Nat} (hm : opMat P s op b len) (hr : H[r]? = some b) (he : eOk P (.blk r b) (.tuple []) (hs.drop lo)) (h : dwp P ops rest pl Q (s.put? d (mval op r len)) H hs (⟨.blk r b, .tuple [], hi⟩ :: pd)) :
    dN P ops op (.gm r lo hi) d rest pl Q s H hs pd := ⟨b, len, hm, hr, he, h⟩
/-- A drawn region in which blocks are made whose order is open: their numbers are kept. -/
theorem drawG {id : Nat} {l : List Oper} (gs : List Blk) (pl : List Pl) (hpl : planOk n l.toArray pl = true) (hgm : gmOk H.length (H.length + gs.length) pl [] = true) (hm : P.follows .mixedOrders = true) (h : dwp P l.toArray l pl Q s (H ++ gs) [] []) : SWp P n D (.region id l.toArray true) Q s H := (draw_anyG gs pl hpl hgm h).region hm (planOk_nodef hpl)
theorem draw {id : Nat} {l : List Oper} (pl : List Pl) (hpl : (planOk n l.toArray pl && noG pl) = true) (hm : P.follows .mixedOrders = true) (h : dwp P l.toArray l pl Q s H [] []) : SWp P n D (.region id l.toArray true) Q s H := draw_intro pl hpl hm h
end
attribute [go_sem ↓] d_nil d_none d_some dN_qu dN_rd dN_rds dN_rdi dN_rdc dN_mn dN_gn
attribute [go_sem] mval_call mval_alloc dG_same dG_tf dG_ft dG_un dSk_qu dSk_qun dSk_rd dSk_mn dSk_mnn y_val y_chk rd_load rd_slice rd_iaddr rd_call rd_blk nil0_alloc nil0_chk opMat_eq aMat aMatE implies_true forall_const dQ_val dQ_valn dQ_chk dQ_chkT dR_val dR_chk dR_chkT dM_val dM_valn dM_chk dM_chkT dM_alloc dM_upd dH_cons dH_consn dH_nil dH_niln pOk_nil pOk_cons eOk_nil eOk_cons
end Go.AM

set_option linter.unusedVariables false
set_option linter.unusedSimpArgs false
namespace Go.AM
theorem upon_monoN {P : Program} {o : Oper} {a : Act} {K K' : Act → World → Prop} {Q Q' : Exit → Act → World → Prop} (hk : ∀ a w, K a w → K' a w) (hq : ∀ e a w, e ≠ .normal → Q e a w → Q' e a w) {r : Result Next} (h : o.upon P a K Q r) : o.upon P a K' Q' r := by
  have hl : LetsOut Q → LetsOut Q' := fun ⟨a, w, h⟩ => ⟨a, w, hq _ _ _ (by intro e; cases e) h⟩
  cases r with
  | ok n w' =>
    cases n <;> simp only [Oper.upon] at h ⊢ <;> first
      | exact h.elim
      | exact hk _ _ h
      | exact h.mono (fun e w'' he => by cases e <;> first | exact hk _ _ he | exact hq _ _ _ (by intro e; cases e) he | exact hl he)
      | exact Rows.mono h (fun _ _ he => hk _ _ he)
  | halt x w' => cases x <;> simp only [Oper.upon] at h ⊢ <;> exact hq _ _ _ (by intro e; cases e) h
/-- The last one stands behind all others. -/
def lastOk (n : Nat) (l : List Oper) (o : Oper) : Bool :=
  dstOk n o && l.all (fun x => match x.guard with | some (j, _) => decide (j < l.length) | none => true)
  && o.after.all (fun e => !Region.binds .any e || decide (e.on < l.length))
  && (List.range l.length).all (fun j => match l[j]? with | some x => x.after.all (fun e => !Region.binds .any e || decide (e.on < j)) | none => false)
  && (List.range l.length).all (fun j => edgeB o j || (List.range l.length).any fun k => decide (j < k) && match l[k]? with | some x => edgeB x j | none => false)
section
variable {P : Program} {n : Nat} {D : Fx} {l : List Oper} {o : Oper}
theorem snoc_lt {i : Nat} (h : i < l.length) : (l ++ [o]).toArray[i]? = l.toArray[i]? := by
  rw [List.getElem?_toArray, List.getElem?_toArray, List.getElem?_append_left h]
theorem snoc_eq : (l ++ [o]).toArray[l.length]? = some o := by simp
theorem snoc_some {i : Nat} {x : Oper} (h : (l ++ [o]).toArray[i]? = some x) : i < l.length ∨ (i = l.length ∧ x = o) := by
  rcases Nat.lt_trichotomy i l.length with h1 | h1 | h1
  · exact .inl h1
  · subst h1; rw [snoc_eq] at h; exact .inr ⟨rfl, (Option.some.inj h).symm⟩
  · rw [List.getElem?_toArray, List.getElem?_eq_none (by simp; omega)] at h; cases h
theorem getD_push {listed : Array Bool} {i : Nat} (b : Bool) (h : i < listed.size) : (listed.push false).getD i b = listed.getD i b := by
  rw [Array.getD_eq_getD_getElem?, Array.getD_eq_getD_getElem?, Array.getElem?_push, if_neg (by omega)]
theorem getD_tf {listed : Array Bool} {i : Nat} (h : i < listed.size) : listed.getD i true = listed.getD i false := by
  rw [Array.getD_eq_getD_getElem?, Array.getD_eq_getD_getElem?, Array.getElem?_eq_getElem h]; rfl
theorem set_push {listed : Array Bool} {i : Nat} (h : i < listed.size) : (listed.push false).setIfInBounds i true = (listed.setIfInBounds i true).push false := by
  apply Array.ext_getElem?
  intro k
  simp only [Array.getElem?_setIfInBounds, Array.getElem?_push, Array.size_push, Array.size_setIfInBounds]
  by_cases h1 : i = k
  · subst h1
    rw [if_pos rfl, if_pos (by omega), if_neg (by omega), if_pos rfl, if_pos h]
  · rw [if_neg h1]
    by_cases h2 : k = listed.size
    · rw [if_pos h2, if_pos h2]
    · rw [if_neg h2, if_neg h2, if_neg h1]
theorem wpAny_snoc {Q1 Q : Exit → Act → World → Prop} (hL : lastOk n l o = true) (hn : ∀ a w, Q1 .normal a w → wpOp P (l ++ [o]).toArray Q l.length (fun a w => Q .normal a w) a w) (he : ∀ e a w, e ≠ .normal → Q1 e a w → Q e a w) :
    ∀ (fuel : Nat) (listed : Array Bool) (a : Act) (w : World), listed.size = l.length → listed.toList.countP (·) + fuel = l.length → (∀ (k : Nat) x, Lst listed k → l[k]? = some x → ∀ j, edge x j → Lst listed j) →
      wpAny P .any l.toArray Q1 fuel listed a w → wpAny P .any (l ++ [o]).toArray Q (fuel + 1) (listed.push false) a w := by
  simp only [lastOk, Bool.and_eq_true, List.all_eq_true, List.mem_range] at hL
  obtain ⟨⟨⟨⟨hdst, hgu⟩, hoe⟩, htop⟩, hcov⟩ := hL
  have top : ∀ (j : Nat) x, l[j]? = some x → ∀ i, edge x i → i < j := fun j x hx i ⟨e, hm, hb, hi⟩ => by
    have := htop j (List.getElem?_eq_some_iff.1 hx).1
    rw [hx] at this
    have := Array.all_eq_true_iff_forall_mem.1 this e hm
    simp [hb] at this
    omega
  have topo : ∀ i, edge o i → i < l.length := fun i ⟨e, hm, hb, hi⟩ => by
    have := Array.all_eq_true_iff_forall_mem.1 hoe e hm
    simp [hb] at this
    omega
  have allL : ∀ (listed : Array Bool), (∀ (k : Nat) x, Lst listed k → l[k]? = some x → ∀ j, edge x j → Lst listed j) → (∀ i, edge o i → Lst listed i) → ∀ (m j : Nat), l.length - j ≤ m → j < l.length → Lst listed j := by
    intro listed hcl ho m
    induction m with
    | zero => intro j h1 h2; omega
    | succ m ih =>
      intro j h1 h2
      have := hcov j h2
      simp only [Bool.or_eq_true, List.any_eq_true, List.mem_range, Bool.and_eq_true, decide_eq_true_eq] at this
      rcases this with h | ⟨k, hk, hjk, h⟩
      · exact ho j (edgeB_iff.1 h)
      · rw [List.getElem?_eq_getElem hk] at h
        exact hcl k _ (ih k (by omega) hk) (List.getElem?_eq_getElem hk) j (edgeB_iff.1 h)
  have full : ∀ (listed : Array Bool), listed.size = l.length → (∀ j, j < l.length → Lst listed j) → listed.toList.countP (·) = l.length := by
    intro listed hs h
    rw [← hs, ← Array.length_toList, List.countP_eq_length]
    intro b hb
    obtain ⟨k, hk⟩ := List.getElem?_of_mem hb
    have hkl : k < l.length := by have := (List.getElem?_eq_some_iff.1 hk).1; rw [Array.length_toList, hs] at this; exact this
    have := h k hkl
    unfold Lst at this
    rw [Array.getD_eq_getD_getElem?, ← Array.getElem?_toList, hk] at this
    simpa using this
  have rdy : ∀ (listed : Array Bool), listed.size = l.length → ∀ i, i < l.length → (i ∈ Region.ready .any (l ++ [o]).toArray (listed.push false) ↔ i ∈ Region.ready .any l.toArray listed) := by
    intro listed hs i hi
    rw [mem_ready, mem_ready, getD_push _ (by omega), snoc_lt hi]
    refine and_congr_right fun _ => exists_congr fun x => and_congr_right fun hx => forall_congr' fun e => forall_congr' fun hm => forall_congr' fun hb => ?_
    rw [getD_push _ (by have := top i x (by simpa using hx) e.on ⟨e, hm, hb, rfl⟩; omega)]
  have rdyo : ∀ (listed : Array Bool), listed.size = l.length → ∀ i, l.length ≤ i → i ∈ Region.ready .any (l ++ [o]).toArray (listed.push false) → i = l.length ∧ ∀ j, edge o j → Lst listed j := by
    intro listed hs i hi h
    obtain ⟨_, x, hx, hr⟩ := mem_ready.1 h
    rcases snoc_some hx with h1 | ⟨h1, rfl⟩
    · omega
    · refine ⟨h1, fun j ⟨e, hm, hb, hj⟩ => ?_⟩
      have := hr e hm hb
      rw [hj, getD_push _ (by have := topo j ⟨e, hm, hb, hj⟩; omega)] at this
      exact this
  intro fuel
  induction fuel with
  | zero =>
    intro listed a w hs hc hcl h
    have hall : ∀ j, j < l.length → Lst listed j := by
      intro j hj
      have h1 : listed.toList.countP (·) = listed.toList.length := by rw [Array.length_toList, hs]; simpa using hc
      have h2 := List.countP_eq_length.1 h1
      unfold Lst
      have hk' : j < listed.size := by rw [hs]; exact hj
      rw [Array.getD_eq_getD_getElem?, Array.getElem?_eq_getElem hk']
      exact h2 _ (by simp)
    have hK : l.length ∈ Region.ready .any (l ++ [o]).toArray (listed.push false) := by
      rw [mem_ready]
      refine ⟨?_, o, snoc_eq, fun e hm hb => ?_⟩
      · rw [Array.getD_eq_getD_getElem?, Array.getElem?_push, if_pos hs.symm]; rfl
      · have hlt := topo e.on ⟨e, hm, hb, rfl⟩
        rw [getD_push _ (by omega)]
        exact hall _ hlt
    refine ⟨fun hr => (by rw [hr] at hK; cases hK), fun i hi => ?_⟩
    have hi' : i = l.length := by
      rcases Nat.lt_or_ge i l.length with h1 | h1
      · have := (mem_ready.1 ((rdy listed hs i h1).1 hi)).1
        rw [getD_tf (by omega)] at this
        have h2 := hall i h1
        unfold Lst at h2
        rw [h2] at this; cases this
      · exact (rdyo listed hs i h1 hi).1
    subst hi'
    have h0 := hn a w h.2
    have hready : Region.ready .any (l ++ [o]).toArray ((listed.push false).setIfInBounds l.length true) = [] := by
      rw [List.eq_nil_iff_forall_not_mem]
      intro k hk
      obtain ⟨h1, x, hx, _⟩ := mem_ready.1 hk
      rw [Array.getD_eq_getD_getElem?, Array.getElem?_setIfInBounds] at h1
      rcases snoc_some hx with h2 | ⟨h2, _⟩
      · rw [if_neg (by omega), ← Array.getD_eq_getD_getElem?, getD_push _ (by omega), getD_tf (by omega)] at h1
        have h3 := hall k h2
        unfold Lst at h3
        rw [h3] at h1; cases h1
      · rw [if_pos h2.symm, if_pos (by simp; omega)] at h1; cases h1
    unfold wpOp at h0 ⊢
    rw [snoc_eq] at h0 ⊢
    simp only at h0 ⊢
    split
    · rename_i hw
      rw [if_pos hw] at h0
      rcases h0 with h0 | h0
      · exact .inl (Oper.wp_mono (fun a w hq => ⟨hready, hq⟩) h0)
      · exact .inr h0
    · rename_i hw
      rw [if_neg hw] at h0
      exact ⟨hready, h0⟩
  | succ fuel ih =>
    intro listed a w hs hc hcl h
    have notall : ¬ ∀ j, j < l.length → Lst listed j := fun hall => by have := full listed hs hall; omega
    refine ⟨fun hr => absurd ?_ notall, fun i hi => ?_⟩
    · intro j
      induction j using Nat.strongRecOn with
      | _ j ihj =>
        intro hj
        by_cases hl : Lst listed j
        · exact hl
        · have : j ∈ Region.ready .any (l ++ [o]).toArray (listed.push false) := by
            rw [rdy listed hs j hj, mem_ready]
            refine ⟨?_, l[j], by simp [hj], fun e hm hb => ?_⟩
            · unfold Lst at hl
              rw [getD_tf (by omega)]
              simpa using hl
            · have := top j _ (List.getElem?_eq_getElem hj) e.on ⟨e, hm, hb, rfl⟩
              exact ihj e.on this (by omega)
          rw [hr] at this
          cases this
    · rcases Nat.lt_or_ge i l.length with h1 | h1
      · have hir := (rdy listed hs i h1).1 hi
        have h2 := h.2 i hir
        obtain ⟨hx1, x, hx, hx2⟩ := mem_ready.1 hir
        have hil : i < listed.size := by omega
        have hfalse : listed[i] = false := by
          rw [Array.getD_eq_getD_getElem?, Array.getElem?_eq_getElem hil] at hx1
          simpa using hx1
        have hcnt : (listed.setIfInBounds i true).toList.countP (·) + fuel = l.length := by
          rw [Array.toList_setIfInBounds, List.countP_set (by simpa using hil)]
          simp only [Array.getElem_toList, hfalse]
          simp only [Bool.false_eq_true, if_false, if_true, Nat.sub_zero]
          omega
        have hlx : l[i]? = some x := by simpa using hx
        have hcl' : ∀ (k : Nat) y, Lst (listed.setIfInBounds i true) k → l[k]? = some y → ∀ j, edge y j → Lst (listed.setIfInBounds i true) j := by
          intro k y hk hy j hj
          rw [lst_set hil] at hk ⊢
          rcases hk with hk | rfl
          · exact .inl (hcl k y hk hy j hj)
          · rw [hlx] at hy; cases hy
            obtain ⟨e, hm, hb, rfl⟩ := hj
            exact .inl (hx2 e hm hb)
        rw [set_push hil]
        have hwy : Region.wanted x (yielded (l ++ [o]).toArray a.tmps) = Region.wanted x (yielded l.toArray a.tmps) := by
          unfold Region.wanted
          cases hg : x.guard with
          | none => rfl
          | some g =>
            obtain ⟨j, wnt⟩ := g
            have := hgu x (List.mem_of_getElem? hlx)
            rw [hg] at this
            simp only [decide_eq_true_eq] at this
            simp only [yielded, snoc_lt this]
        unfold wpOp at h2 ⊢
        rw [snoc_lt h1, hx]
        rw [hx] at h2
        simp only [hwy] at h2 ⊢
        split
        · rename_i hw
          rw [if_pos hw] at h2
          rcases h2 with h2 | h2
          · exact .inl (upon_monoN (fun a w hq => ih _ a w (by simp [hs]) hcnt hcl' hq) he h2)
          · exact .inr ⟨h2.1, let ⟨a, w, h⟩ := h2.2; ⟨a, w, he _ _ _ (by intro e; cases e) h⟩⟩
        · rename_i hw
          rw [if_neg hw] at h2
          exact ih _ _ _ (by simp [hs]) hcnt hcl' h2
      · obtain ⟨_, hr⟩ := rdyo listed hs i h1 hi
        exact absurd (fun j hj => allL listed hcl hr l.length j (by omega) hj) notall
def lastX (P : Program) (ops : Array Oper) (o : Oper) (Q : XQ) : XQ := fun x s H => match x with
  | .normal => cops P ops [o] Q s H
  | x => Q x s H
theorem SAny.last {Q : XQ} {s : Ch} {H : Heap} {id : Nat} (hL : lastOk n l o = true) (hd : ((l ++ [o]).toArray.all (dstOk n) && (l ++ [o]).toArray.all noDef) = true) (hm : P.follows .mixedOrders = true) (h : SAny P n D l.toArray (lastX P (l ++ [o]).toArray o Q) s H) : SWp P n D (.region id (l ++ [o]).toArray true) Q s H := by
  intro ro sn ρ w a hR hs hdf hB
  simp only [Bool.and_eq_true] at hd
  obtain ⟨hd, hnd⟩ := hd
  refine wpIn_region_any hm (wpAny_in hnd notOut _ _ _ _ ?_)
  have h0 := h sn ρ w a hR hs hdf hB
  have hsz : (l ++ [o]).toArray.size = l.length + 1 := by simp
  have hrep : Array.replicate (l.length + 1) false = (Array.replicate l.length false).push false := by rw [Array.replicate_succ]
  rw [hsz, hrep]
  rw [show l.toArray.size = l.length by simp] at h0
  refine wpAny_snoc hL ?_ ?_ l.length _ a _ (by simp) (by simp [List.countP_replicate]) ?_ h0
  · rintro a' w' ⟨sn', ρ', H', s', x, h1, h2, h3, h4, h5, h6⟩
    have := h1.normal
    subst this
    have hk : cops P (l ++ [o]).toArray ((l ++ [o]).toArray.toList.drop l.length) Q s' H' := by simpa [lastX] using h6
    have h7 := cops_sound (D := D) hd 1 l.length s' H' (by simp) hk sn' ρ' w' a' h2 h3 h4 h5.len
    rw [show List.range' l.length 1 = [l.length] from rfl, wpOps_cons] at h7
    have mono : ∀ (e : Exit) (a2 : Act) (w2 : World), (∃ sn2 ρ2 H2 s2 x, AXR sn2 ρ2 x e ∧ Rel sn2 ρ2 H2 w2 ∧ SR sn2 ρ2 n s2 a2.tmps ∧ a2.defers = D.D ∧ ExtB D.B sn' ρ' H' w' sn2 ρ2 H2 w2 ∧ Q x s2 H2) → (∃ sn2 ρ2 H2 s2 x, AXR sn2 ρ2 x e ∧ Rel sn2 ρ2 H2 w2 ∧ SR sn2 ρ2 n s2 a2.tmps ∧ a2.defers = D.D ∧ ExtB D.B sn ρ H w sn2 ρ2 H2 w2 ∧ Q x s2 H2) :=
      fun e a2 w2 ⟨sn2, ρ2, H2, s2, x, g1, g2, g3, g4, g5, g6⟩ => ⟨sn2, ρ2, H2, s2, x, g1, g2, g3, g4, h5.trans g5, g6⟩
    unfold wpOp at h7 ⊢
    rw [snoc_eq] at h7 ⊢
    simp only [wpOps] at h7 ⊢
    split
    · rename_i hw
      rw [if_pos hw] at h7
      rcases h7 with h7 | ⟨h7, h8⟩
      · exact .inl (upon_mono (mono .normal) mono h7)
      · exact .inr ⟨h7, let ⟨a2, w2, h⟩ := h8; ⟨a2, w2, mono _ _ _ h⟩⟩
    · rename_i hw
      rw [if_neg hw] at h7
      exact mono _ _ _ h7
  · rintro e a' w' hne ⟨sn', ρ', H', s', x, h1, h2, h3, h4, h5, h6⟩
    refine ⟨sn', ρ', H', s', x, h1, h2, h3, h4, h5, ?_⟩
    cases x with
    | normal => cases e <;> simp [AXR] at h1; exact absurd rfl hne
    | _ => exact h6
  · intro k x hk
    unfold Lst at hk
    rw [Array.getD_eq_getD_getElem?, Array.getElem?_replicate] at hk
    split at hk <;> simp at hk
/-- A drawn region whose last operation stands behind all others. -/
theorem drawL {Q : XQ} {s : Ch} {H : Heap} {id : Nat} (pl : List Pl) (hpl : (planOk n l.toArray pl && noG pl) = true) (hL : lastOk n l o = true) (hd : ((l ++ [o]).toArray.all (dstOk n) && (l ++ [o]).toArray.all noDef) = true) (hm : P.follows .mixedOrders = true)
    (h : dwp P l.toArray l pl (lastX P (l ++ [o]).toArray o Q) s H [] []) : SWp P n D (.region id (l ++ [o]).toArray true) Q s H := SAny.last hL hd hm (draw_any pl hpl h)
theorem drawLL {l2 : List Oper} {Q : XQ} {s : Ch} {H : Heap} {id : Nat} (pl : List Pl) (k : Nat) (he : l2 = l2.take k ++ [o]) (hpl : (planOk n (l2.take k).toArray pl && noG pl) = true) (hL : lastOk n (l2.take k) o = true) (hd : (l2.toArray.all (dstOk n) && l2.toArray.all noDef) = true) (hm : P.follows .mixedOrders = true)
    (h : dwp P (l2.take k).toArray (l2.take k) pl (lastX P l2.toArray o Q) s H [] []) : SWp P n D (.region id l2.toArray true) Q s H := by
  generalize ht : l2.take k = l at *
  subst he
  exact drawL pl hpl hL hd hm h
theorem lastX_normal {ops : Array Oper} {Q : XQ} {s : Ch} {H : Heap} : lastX P ops o Q .normal s H = cops P ops [o] Q s H := id rfl
end
attribute [go_sem] lastX_normal
end Go.AM

set_option linter.unusedVariables false
set_option linter.unusedSimpArgs false
namespace Go.AM

/-! ### a part of a region -/
theorem wpOps_append {P : Program} {ops : Array Oper} {Q : Exit → Act → World → Prop} {l2 : List Nat} : ∀ {l1 : List Nat} {a : Act} {w : World},
    wpOps P ops (fun e a w => match e with | .normal => wpOps P ops Q l2 a w | e => Q e a w) l1 a w → wpOps P ops Q (l1 ++ l2) a w := by
  intro l1
  induction l1 with
  | nil => intro a w h; exact h
  | cons i rest ih =>
    intro a w h
    simp only [List.cons_append, wpOps] at h ⊢
    split
    · rename_i ho
      simp only [ho] at h
      exact ih h
    · rename_i o ho
      simp only [ho] at h
      split
      · rename_i hw
        simp only [hw, if_true] at h
        rcases h with h | h
        · refine .inl ?_
          unfold Oper.wp at h ⊢
          generalize (execOp a.eval o).run P w = r at h ⊢
          cases r with
          | ok n w' =>
            cases n <;> simp only [Oper.upon] at h ⊢ <;> first
              | exact h.elim
              | exact ih h
              | exact h.mono (fun e w'' he => by cases e <;> first | exact ih he | exact he)
              | exact Rows.mono h (fun _ _ he => ih he)
          | halt x w' => cases x <;> simp only [Oper.upon] at h ⊢ <;> exact h
        · exact .inr ⟨h.1, h.2⟩
      · rename_i hw
        simp only [hw] at h
        exact ih h

theorem cops_part {P : Program} {n : Nat} {D : Fx} {ops : Array Oper} {Q : XQ} (hd : ops.all (dstOk n) = true) : ∀ (m k : Nat) (s : Ch) (H : Heap), k + m ≤ ops.size → cops P ops ((ops.toList.drop k).take m) Q s H → SOps P n D ops (List.range' k m) Q s H := by
  intro m
  induction m with
  | zero =>
    intro k s H hk h sn ρ w a hR hs hdf hB
    exact ⟨sn, ρ, H, s, .normal, trivial, hR, hs, hdf, .refl hB, h⟩
  | succ m ih =>
    intro k s H hk h sn ρ w a hR hs hdf hB
    have hlt : k < ops.size := by omega
    have hcons : (ops.toList.drop k).take (m + 1) = ops[k] :: (ops.toList.drop (k + 1)).take m := by
      rw [List.drop_eq_getElem_cons (by simpa using hlt)]; simp
    rw [hcons] at h
    have hok : ops[k]? = some ops[k] := Array.getElem?_eq_getElem hlt
    have hdk : dstOk n ops[k] = true := by
      rw [Array.all_eq_true] at hd
      exact hd k hlt
    have hrest : ∀ s' H', cops P ops ((ops.toList.drop (k + 1)).take m) Q s' H' → SOps P n D ops (List.range' (k + 1) m) Q s' H' := fun s' H' h' => ih (k + 1) s' H' (by omega) h'
    have run : (aop P s H ops[k].op).k P H (fun v H' => cops P ops ((ops.toList.drop (k + 1)).take m) Q (s.put? ops[k].dst v) H') (fun v H' => Q (.pan v) s H') →
        Oper.wp P ops[k] a w (wpOps P ops (fun e a' w' => ∃ sn' ρ' H' s' x, AXR sn' ρ' x e ∧ Rel sn' ρ' H' w' ∧ SR sn' ρ' n s' a'.tmps ∧ a'.defers = D.D ∧ ExtB D.B sn ρ H w sn' ρ' H' w' ∧ Q x s' H') (List.range' (k + 1) m))
          (fun e a' w' => ∃ sn' ρ' H' s' x, AXR sn' ρ' x e ∧ Rel sn' ρ' H' w' ∧ SR sn' ρ' n s' a'.tmps ∧ a'.defers = D.D ∧ ExtB D.B sn ρ H w sn' ρ' H' w' ∧ Q x s' H') := by
      intro hk'
      refine upon_ok hR ?_ ?_ _ (aop_ok hR hs ops[k] (AR.enters_of_k hk')) hk'
      · intro sn' ρ' H' w' v cv q1 q2 hv hc
        have := hrest _ _ hc sn' ρ' w' (a.put ops[k].dst cv) q1 ((hs.mono q2.snap q2.env).put? hdk hv) (by rw [put_defers]; exact hdf) (Nat.le_trans hB q2.len)
        exact wpOps_mono (fun e a'' w'' ⟨sn2, ρ2, H2, s2, x, g1, g2, g3, g4, g5, g6⟩ => ⟨sn2, ρ2, H2, s2, x, g1, g2, g3, g4, (q2.b hB).trans g5, g6⟩) _ _ _ this
      · intro sn' ρ' H' w' v cv q1 q2 hv hc
        exact ⟨sn', ρ', H', s, .pan v, hv, q1, hs.mono q2.snap q2.env, hdf, q2.b hB, hc⟩
    rw [List.range'_succ]
    simp only [wpOps, hok]
    simp only [cops] at h
    split at h
    · rename_i hg
      have hw : Region.wanted ops[k] (yielded ops a.tmps) = true := by simp [Region.wanted, hg]
      rw [if_pos hw]
      exact .inl (run h)
    · rename_i j want hg
      unfold gk at h
      split at h
      · rename_i b hb
        have hy := gval_ok hs hb
        split at h
        · rename_i hbw
          have hw : Region.wanted ops[k] (yielded ops a.tmps) = true := by simp [Region.wanted, hg, hy, hbw]
          rw [if_pos hw]
          exact .inl (run h)
        · rename_i hbw
          have hw : ¬ Region.wanted ops[k] (yielded ops a.tmps) = true := by simp [Region.wanted, hg, hy, hbw]
          rw [if_neg hw]
          exact hrest _ _ h sn ρ w (a.put ops[k].dst undef) hR (hs.put? hdk (undef_ok _ _)) (by rw [put_defers]; exact hdf) hB
      · rename_i hb
        have hw : ¬ Region.wanted ops[k] (yielded ops a.tmps) = true := by simp [Region.wanted, hg, gval_undef hs hb]
        rw [if_neg hw]
        exact hrest _ _ h sn ρ w (a.put ops[k].dst undef) hR (hs.put? hdk (undef_ok _ _)) (by rw [put_defers]; exact hdf) hB
      · exact h.elim

/-! ### how a function leaves -/
inductive DM where
  | ret
  | pan (v : AV)
def MR (sn : Snap) (ρ : Env) : DM → FrameMode → Prop
  | .ret, .returning => True
  | .pan x, .panicking [{ v, recovered := false, goexit := false }] => VR sn ρ x v
  | _, _ => False
theorem MR.pan_inv {sn : Snap} {ρ : Env} {x : AV} {u : FrameMode} (h : MR sn ρ (.pan x) u) : ∃ v, u = .panicking [{ v, recovered := false }] ∧ VR sn ρ x v := by
  unfold MR at h
  split at h
  · rename_i h1; cases h1
  · rename_i h1
    cases h1
    exact ⟨_, rfl, h⟩
  · exact h.elim
theorem MR.ret_inv {sn : Snap} {ρ : Env} {u : FrameMode} (h : MR sn ρ .ret u) : u = .returning := by
  cases u <;> simp [MR] at h
  rfl
theorem MR.mono {sn sn' : Snap} {ρ ρ' : Env} {m : DM} {u : FrameMode} (h : MR sn ρ m u) (hs : ∀ b o, sn b = some o → sn' b = some o) (hr : ∀ r p, ρ r = some p → ρ' r = some p) : MR sn' ρ' m u := by
  cases m with
  | ret => rw [h.ret_inv]; trivial
  | pan x =>
    obtain ⟨v, rfl, hv⟩ := h.pan_inv
    exact VR.mono hs hv hr

/-- A deferred call. -/
def ADef (P : Program) (g : FuncId) (args : List AV) (m : DM) (H : Heap) (Q : DM → Heap → Prop) : Prop :=
  ∀ (sn : Snap) (ρ : Env) (w : World) (vs : Array Value) (u : FrameMode), Rel sn ρ H w → VRs sn ρ args vs.toList → MR sn ρ m u →
    CallsD P g vs u w fun e u' w' => (∃ v, e = .returned v) ∧ ∃ sn' ρ' H' m', Rel sn' ρ' H' w' ∧ Ext sn ρ H w sn' ρ' H' w' ∧ MR sn' ρ' m' (settle u') ∧ Q m' H'

/-- A function, from some place of it on, as long as no call is deferred. -/
def DWp (P : Program) (n B : Nat) (fn : Func) (Q : CQ) (c : Code) (s : Ch) (H : Heap) : Prop :=
  ∀ (sn : Snap) (ρ : Env) (w : World) (a : Act), Rel sn ρ H w → SR sn ρ n s a.tmps → a.defers = [] → B ≤ H.length →
    c.wp P (bodyPostD P fn fun e w' => ∃ sn' ρ' H' out, OutR sn' ρ' out e ∧ Rel sn' ρ' H' w' ∧ ExtB B sn ρ H w sn' ρ' H' w' ∧ Q out H') a w

theorem postD_mono {P : Program} {fn : Func} {R R' : Ending → World → Prop} (h : ∀ e w, R e w → R' e w) : ∀ (ds : List Deferred) (tmps : Array Value) (u : FrameMode) (w : World), Leaves P fn tmps R ds u w → Leaves P fn tmps R' ds u w := by
  intro ds
  induction ds with
  | nil =>
    intro tmps u w hl
    cases u with
    | run => exact hl
    | returning => obtain ⟨v, h1, h2⟩ := hl; exact ⟨v, h1, h _ _ h2⟩
    | panicking c => exact h _ _ hl
  | cons d ds ih =>
    intro tmps u w hl
    obtain ⟨h1, fv, cap, f, args, h2, h3, h4⟩ := hl
    refine ⟨h1, fv, cap, f, args, h2, h3, h4.mono fun e u' w' he => ?_⟩
    cases e <;> first | exact ih _ _ _ he | exact h _ _ he

theorem DWp.seq {P : Program} {n B : Nat} {fn : Func} {Q : CQ} {x y : Code} {s : Ch} {H : Heap} (hok : codeOk n x = true) (h : cwp P n ⟨[], B, []⟩ x (thenX (DWp P n B fn Q y) (bodyX P fn.results.toList Q)) s H) : DWp P n B fn Q (.seq x y) s H := by
  intro sn ρ w a hR hs hd hB
  refine wp_seq (wp_mono ((cwp_sound x hok _ _ _ h).plain sn ρ w a hR hs hd hB) ?_)
  rintro e a' w' ⟨sn', ρ', H', s', ax, h1, h2, h3, h4, h5, h6⟩
  have h4' : a'.defers = [] := h4
  cases ax with
  | normal =>
    cases e <;> simp [AXR] at h1
    refine wp_mono (h6 sn' ρ' w' a' h2 h3 h4 h5.len) ?_
    intro e2 a2 w2 hp
    have hR2 : ∀ (e : Ending) (w3 : World), (∃ sn2 ρ2 H2 out, OutR sn2 ρ2 out e ∧ Rel sn2 ρ2 H2 w3 ∧ ExtB B sn' ρ' H' w' sn2 ρ2 H2 w3 ∧ Q out H2) → ∃ sn2 ρ2 H2 out, OutR sn2 ρ2 out e ∧ Rel sn2 ρ2 H2 w3 ∧ ExtB B sn ρ H w sn2 ρ2 H2 w3 ∧ Q out H2 :=
      fun e w3 ⟨sn2, ρ2, H2, out, g1, g2, g3, g4⟩ => ⟨sn2, ρ2, H2, out, g1, g2, h5.trans g3, g4⟩
    cases e2 <;> simp only [bodyPostD] at hp ⊢ <;> first | exact postD_mono hR2 _ _ _ _ hp | exact hR2 _ _ hp | exact hp
  | ret =>
    cases e <;> simp [AXR] at h1
    obtain ⟨v, cv, g1, g2, g3⟩ := packRes_ok h2 h3 fn h6
    simp only [Exit.then, bodyPostD, h4']
    exact ⟨cv, g1, sn', ρ', H', .ret v, g2, h2, h5, g3⟩
  | exit id => exact h6.elim
  | pan v =>
    cases e <;> simp [AXR] at h1
    rename_i ch
    simp only [Exit.then, bodyPostD, h4']
    refine ⟨sn', ρ', H', .pan v, ?_, h2, h5, h6⟩
    split at h1
    · rename_i e; cases e
    · rename_i e; cases e
    · rename_i e; cases e
    · rename_i e1 e2; cases e1; cases e2; exact h1
    · exact h1.elim

/-! ### the call that is deferred -/
def postD (P : Program) (fn : Func) (Q : CQ) (s : Ch) (m : DM) (H : Heap) : Prop := match m with
  | .ret => packRes (aResults P s H fn.results.toList) (fun v => Q (.ret v) H)
  | .pan v => Q (.pan v) H
def lX (P : Program) (fn : Func) (Q : CQ) (g : FuncId) (da : List AV) : XQ := fun x s H => match x with
  | .normal => ADef P g da .ret H (postD P fn Q s)
  | .ret => ADef P g da .ret H (postD P fn Q s)
  | .pan v => ADef P g da (.pan v) H (postD P fn Q s)
  | .exit _ => False
def dF (P : Program) (n : Nat) (fn : Func) (Q : CQ) (rest : Code) (v : AV) (args : List AV) (s : Ch) (H : Heap) : Prop := match v with
  | .func (.func g) first cap => Enters P g ∧ ltL H.length (first ++ args ++ cap) = true ∧ ∀ d, cwp P n ⟨[d], H.length, []⟩ rest (lX P fn Q g (first ++ args ++ cap)) s H
  | _ => False
def dfX (P : Program) (n : Nat) (fn : Func) (Q : CQ) (rest : Code) (f : Operand) (l : List Operand) : XQ := fun x s H => match x with
  | .normal => dF P n fn Q rest (cev s f) (l.map (cev s)) s H
  | x => bodyX P fn.results.toList Q x s H

theorem VRs.cut {sn sn' : Snap} {ρ ρ' : Env} {m : Nat} {xs : List AV} {ys : List Value} (h : VRs sn ρ xs ys) (hl : ltL m xs = true) (hs : ∀ b o, sn b = some o → sn' b = some o) (hr : ∀ r p, r < m → ρ r = some p → ρ' r = some p) : VRs sn' ρ' xs ys :=
  ⟨h.1, fun k x y hx hy => VR.mono hs ((h.2 k x y hx hy).cut (ltL_get hl hx) hr) (fun _ _ h => h)⟩

theorem AXR.pan_out {sn : Snap} {ρ : Env} {v : AV} {ch : List PanicEntry} (h : AXR sn ρ (.pan v) (.panic ch)) : ∃ cv, ch = [{ v := cv, recovered := false }] ∧ VR sn ρ v cv := by
  unfold AXR at h
  split at h
  · rename_i e; cases e
  · rename_i e; cases e
  · rename_i e; cases e
  · rename_i e1 e2; cases e1; cases e2; exact ⟨_, rfl, h⟩
  · exact h.elim

theorem leaves_of_def {P : Program} {B : Nat} {fn : Func} {Q : CQ} {g : FuncId} {da : List AV} {fv : Fn} {cap dargs vs : Array Value} {s : Ch} {m : DM} {u : FrameMode} {sn0 sn : Snap} {ρ0 ρ : Env} {H0 H : Heap} {w0 w : World} {a : Act} (hu : u ≠ .run)
    (hi : ∀ w, (invoke (.fn fv cap) dargs).run P w = .ok (.enter g vs) w) (hR : Rel sn ρ H w) (hs : SR sn ρ fn.ntmps s a.tmps) (hv : VRs sn ρ da vs.toList) (hm : MR sn ρ m u) (hE : ExtB B sn0 ρ0 H0 w0 sn ρ H w) (h : ADef P g da m H (postD P fn Q s)) :
    Leaves P fn a.tmps (fun e w' => ∃ sn' ρ' H' out, OutR sn' ρ' out e ∧ Rel sn' ρ' H' w' ∧ ExtB B sn0 ρ0 H0 w0 sn' ρ' H' w' ∧ Q out H') [{ target := .fn fv cap, args := dargs }] u w := by
  refine leaves_cons hu (hi w) ((h sn ρ w vs u hR hv hm).mono ?_)
  rintro e u' w' ⟨⟨v, rfl⟩, sn', ρ', H', m', h1, h2, h3, h4⟩
  have hs' := hs.mono h2.snap h2.env
  have hE' := hE.trans (h2.b hE.len)
  cases m' with
  | ret =>
    simp only [h3.ret_inv]
    obtain ⟨x, cv, g1, g2, g3⟩ := packRes_ok h1 hs' fn h4
    exact ⟨cv, g1, sn', ρ', H', .ret x, g2, h1, hE', g3⟩
  | pan x =>
    obtain ⟨cv, hcv, hx⟩ := h3.pan_inv
    simp only [hcv]
    exact ⟨sn', ρ', H', .pan x, hx, h1, hE', h4⟩

theorem DWp.defer {P : Program} {n B : Nat} {fn : Func} {Q : CQ} {id : Nat} {l : List Oper} {rest : Code} {f : Operand} {as : List Operand} {ts : Array TypeId} {ty : TypeId} {pos : String} {af : Array Edge} {s : Ch} {H : Heap} (hn : Nat.beq fn.ntmps n = true)
    (hl : l.getLast? = some ⟨none, .defer ⟨.value f, as.toArray, ts⟩, ty, pos, af, none⟩) (hok1 : l.toArray.all (dstOk n) = true) (hok2 : codeOk n rest = true) (h : cops P l.toArray l.dropLast (dfX P n fn Q rest f as) s H) :
    DWp P n B fn Q (.seq (.region id l.toArray false) rest) s H := by
  have hn := Nat.eq_of_beq_eq_true hn
  subst hn
  intro sn ρ w a hR hs hd hB
  have hne : l ≠ [] := fun e => by subst e; cases hl
  have hpos : 0 < l.length := List.length_pos_iff.2 hne
  refine wp_seq (wp_region ?_)
  have hr : List.range l.toArray.size = List.range' 0 (l.length - 1) ++ [l.length - 1] := by
    have e : l.toArray.size = (l.length - 1) + 1 := by simp; omega
    rw [e, List.range_succ, List.range_eq_range']
  rw [hr]
  refine wpOps_append ?_
  have h0 : cops P l.toArray ((l.toArray.toList.drop 0).take (l.length - 1)) (dfX P fn.ntmps fn Q rest f as) s H := by
    simpa [List.dropLast_eq_take] using h
  have := cops_part (D := ⟨[], B, []⟩) hok1 (l.length - 1) 0 s H (by simp) h0 sn ρ w a hR hs hd hB
  refine wpOps_mono ?_ _ _ _ this
  rintro e a' w' ⟨sn', ρ', H', s', x, h1, h2, h3, h4, h5, h6⟩
  have h4' : a'.defers = [] := h4
  cases x with
  | normal =>
    cases e <;> simp [AXR] at h1
    have hlast : l.toArray[l.length - 1]? = some ⟨none, .defer ⟨.value f, as.toArray, ts⟩, ty, pos, af, none⟩ := by
      rw [List.getElem?_toArray, ← List.getLast?_eq_getElem?]; exact hl
    simp only [wpOps, hlast]
    have hw : Region.wanted (⟨none, .defer ⟨.value f, as.toArray, ts⟩, ty, pos, af, none⟩ : Oper) (yielded l.toArray a'.tmps) = true := by simp [Region.wanted]
    rw [if_pos hw]
    have h6' : dF P fn.ntmps fn Q rest (cev s' f) (as.map (cev s')) s' H' := h6
    unfold dF at h6'
    split at h6'
    · rename_i g first cap hf
      obtain ⟨hEn, hlt, hk⟩ := h6'
      have hfv := cev_ok h2.gl h3 f
      rw [hf] at hfv
      generalize hcf : a'.eval f = cf at hfv
      obtain ⟨us, vs, rfl, e1, e2⟩ := hfv.func_inv
      have hargs := evs_ok h2.gl h3 as.toArray
      have hall : VRs sn' ρ' (first ++ as.map (cev s') ++ cap) (us ++ as.toArray.map a'.eval ++ vs).toList := by
        have := (e1.append hargs).append e2
        simpa [evs] using this
      refine .inl ?_
      have hrun : (execOp a'.eval ⟨none, .defer ⟨.value f, as.toArray, ts⟩, ty, pos, af, none⟩).run P w' = .ok (.defer { target := .fn (.func g) vs, args := us ++ as.toArray.map a'.eval }) w' := by
        simp [execOp, resolve, hcf, Deferred.ofValue]
      unfold Oper.wp
      rw [hrun]
      simp only [Oper.upon, h4', Act.put, Exit.then]
      have hi : ∀ w, (invoke (.fn (.func g) vs) (us ++ as.toArray.map a'.eval)).run P w = .ok (.enter g (us ++ as.toArray.map a'.eval ++ vs)) w := fun w => by
        simp only [invoke]; exact hEn _ _
      have hd2 := hk { target := .fn (.func g) vs, args := us ++ as.toArray.map a'.eval }
      have := (cwp_sound rest hok2 _ _ _ hd2).plain sn' ρ' w' { a' with defers := [{ target := .fn (.func g) vs, args := us ++ as.toArray.map a'.eval }] } h2 h3 rfl (Nat.le_refl _)
      refine wp_mono this ?_
      rintro e2 a2 w2 ⟨sn2, ρ2, H2, s2, x2, g1, g2, g3, g4, g5, g6⟩
      have g4' : a2.defers = [{ target := .fn (.func g) vs, args := us ++ as.toArray.map a'.eval }] := g4
      have hda : VRs sn2 ρ2 (first ++ as.map (cev s') ++ cap) (us ++ as.toArray.map a'.eval ++ vs).toList := hall.cut hlt g5.snap (fun r p hr hp => by rw [g5.env r hr]; exact hp)
      have hE : ExtB B sn ρ H w sn2 ρ2 H2 w2 := h5.trans ⟨fun r hr => g5.env r (Nat.lt_of_lt_of_le hr h5.len), Nat.le_trans h5.len g5.len, g5.snap, g5.below, g5.os, g5.tape, g5.output, g5.frame, g5.newsnap, g5.newown⟩
      cases x2 with
      | normal =>
        cases e2 <;> simp [AXR] at g1
        simp only [bodyPostD, g4']
        exact leaves_of_def (by simp) hi g2 g3 hda (m := .ret) trivial hE g6
      | ret =>
        cases e2 <;> simp [AXR] at g1
        simp only [bodyPostD, g4']
        exact leaves_of_def (by simp) hi g2 g3 hda (m := .ret) trivial hE g6
      | exit id => exact g6.elim
      | pan v =>
        cases e2 <;> simp [AXR] at g1
        rename_i ch
        obtain ⟨cv, rfl, hcv⟩ := AXR.pan_out (v := v) (ch := ch) g1
        simp only [bodyPostD, g4']
        exact leaves_of_def (by simp) hi g2 g3 hda (m := .pan v) hcv hE g6
    · exact h6'.elim
  | ret =>
    cases e <;> simp [AXR] at h1
    obtain ⟨v, cv, g1, g2, g3⟩ := packRes_ok h2 h3 fn h6
    simp only [Exit.then, bodyPostD, h4']
    exact ⟨cv, g1, sn', ρ', H', .ret v, g2, h2, h5, g3⟩
  | exit id => exact h6.elim
  | pan v =>
    cases e <;> simp [AXR] at h1
    rename_i ch
    obtain ⟨cv, rfl, hcv⟩ := AXR.pan_out (v := v) (ch := ch) h1
    simp only [Exit.then, bodyPostD, h4']
    exact ⟨sn', ρ', H', .pan v, hcv, h2, h5, h6⟩

theorem start_ok {sn : Snap} {ρ : Env} {n : Nat} {args : List AV} {vs : Array Value} (hv : VRs sn ρ args vs.toList) (hn : args.length ≤ n) : SR sn ρ n (argsCh args 0 .nil) (vs ++ Array.replicate (n - vs.size) undef) := by
  have hlen : vs.size = args.length := by have := hv.1; simpa using this
  refine ⟨by simp; omega, fun t => ?_⟩
  rw [argsCh_get]
  split
  · rename_i hlt
    have hlt' : t < vs.size := by omega
    have e1 : (vs ++ Array.replicate (n - vs.size) undef).getD t undef = vs[t] := by
      rw [Array.getD_eq_getD_getElem?, Array.getElem?_append, if_pos hlt', Array.getElem?_eq_getElem hlt']; rfl
    rw [e1]
    have hlt2 : t < args.length := by omega
    simp only [Nat.sub_zero, List.getElem?_eq_getElem hlt2, Option.getD_some]
    exact hv.2 t _ _ (List.getElem?_eq_getElem hlt2) (by simp [hlt'])
  · exact .any _ _
theorem ExtB.ext {sn sn' : Snap} {ρ ρ' : Env} {H H' : Heap} {w w' : World} (hR : Rel sn ρ H w) (h5' : ExtB H.length sn ρ H w sn' ρ' H' w') : Ext sn ρ H w sn' ρ' H' w' := ⟨fun r p hp => by
    have hr : r < H.length := by
      rcases Nat.lt_or_ge r H.length with h | h
      · exact h
      · rw [hR.top r h] at hp; cases hp
    rw [h5'.env r hr]; exact hp, h5'.env, h5'.len, h5'.snap, h5'.below, h5'.os, h5'.tape, h5'.output, h5'.frame, h5'.newsnap, h5'.newown⟩

theorem ACalls.introD {P : Program} {f : FuncId} {fn : Func} {c : Code} {n : Nat} {args : List AV} {H : Heap} {Q : CQ} (hf : P.funcs[f]? = some fn) (hb : fn.body = some c) (hnt : Nat.beq fn.ntmps n = true) (hn : Nat.ble args.length n = true)
    (h : DWp P n H.length fn Q c (argsCh args 0 .nil) H) : ACalls P f args H Q := by
  have hnt := Nat.eq_of_beq_eq_true hnt
  subst hnt
  intro sn ρ w vs hR hv
  refine calls_of_wp_defers hf hb ?_
  refine wp_mono (h sn ρ w _ hR (start_ok hv (Nat.le_of_ble_eq_true hn)) rfl (Nat.le_refl _)) ?_
  intro e a w1 hp
  have hR2 : ∀ (e : Ending) (w3 : World), (∃ sn2 ρ2 H2 out, OutR sn2 ρ2 out e ∧ Rel sn2 ρ2 H2 w3 ∧ ExtB H.length sn ρ H w sn2 ρ2 H2 w3 ∧ Q out H2) → ∃ sn2 ρ2 H2 out, OutR sn2 ρ2 out e ∧ Rel sn2 ρ2 H2 w3 ∧ Ext sn ρ H w sn2 ρ2 H2 w3 ∧ Q out H2 :=
    fun e w3 ⟨sn2, ρ2, H2, out, g1, g2, g3, g4⟩ => ⟨sn2, ρ2, H2, out, g1, g2, g3.ext hR, g4⟩
  cases e <;> simp only [bodyPostD] at hp ⊢ <;> first | exact postD_mono hR2 _ _ _ _ hp | exact hR2 _ _ hp | exact hp

/-! ### recover -/
theorem cops_partS {P : Program} {n : Nat} {D : Fx} {ops : Array Oper} {Q : XQ} {cs : List Frame} (hd : ops.all (dstOk n) = true) {K : Exit → Act → List Frame → World → Prop} {sn0 : Snap} {ρ0 : Env} {H0 : Heap} {w0 : World}
    (hK : ∀ e a' w', (∃ sn' ρ' H' s' x, AXR sn' ρ' x e ∧ Rel sn' ρ' H' w' ∧ SR sn' ρ' n s' a'.tmps ∧ a'.defers = D.D ∧ ExtB D.B sn0 ρ0 H0 w0 sn' ρ' H' w' ∧ Q x s' H') → K e a' cs w') :
    ∀ (m k : Nat) (s : Ch) (H : Heap), k + m ≤ ops.size → cops P ops ((ops.toList.drop k).take m) Q s H → ∀ (sn : Snap) (ρ : Env) (w : World) (a : Act), Rel sn ρ H w → SR sn ρ n s a.tmps → a.defers = D.D → ExtB D.B sn0 ρ0 H0 w0 sn ρ H w → wpOpsS P ops K (List.range' k m) a cs w := by
  intro m
  induction m with
  | zero =>
    intro k s H hk h sn ρ w a hR hs hdf hE
    exact hK _ _ _ ⟨sn, ρ, H, s, .normal, trivial, hR, hs, hdf, hE, h⟩
  | succ m ih =>
    intro k s H hk h sn ρ w a hR hs hdf hE
    have hlt : k < ops.size := by omega
    have hcons : (ops.toList.drop k).take (m + 1) = ops[k] :: (ops.toList.drop (k + 1)).take m := by
      rw [List.drop_eq_getElem_cons (by simpa using hlt)]; simp
    rw [hcons] at h
    have hok : ops[k]? = some ops[k] := Array.getElem?_eq_getElem hlt
    have hdk : dstOk n ops[k] = true := by
      rw [Array.all_eq_true] at hd
      exact hd k hlt
    have run : (aop P s H ops[k].op).k P H (fun v H' => cops P ops ((ops.toList.drop (k + 1)).take m) Q (s.put? ops[k].dst v) H') (fun v H' => Q (.pan v) s H') →
        ops[k].upon P a (fun a' w' => wpOpsS P ops K (List.range' (k + 1) m) a' cs w') (fun e a' w' => K e a' cs w') ((execOp a.eval ops[k]).run P w) := by
      intro hk'
      refine upon_ok hR ?_ ?_ _ (aop_ok hR hs ops[k] (AR.enters_of_k hk')) hk'
      · intro sn' ρ' H' w' v cv q1 q2 hv hc
        exact ih (k + 1) _ _ (by omega) hc sn' ρ' w' _ q1 ((hs.mono q2.snap q2.env).put? hdk hv) (by rw [put_defers]; exact hdf) (hE.trans (q2.b hE.len))
      · intro sn' ρ' H' w' v cv q1 q2 hv hc
        exact hK _ _ _ ⟨sn', ρ', H', s, .pan v, hv, q1, hs.mono q2.snap q2.env, hdf, hE.trans (q2.b hE.len), hc⟩
    have run2 : (aop P s H ops[k].op).k P H (fun v H' => cops P ops ((ops.toList.drop (k + 1)).take m) Q (s.put? ops[k].dst v) H') (fun v H' => Q (.pan v) s H') →
        (match (execOp a.eval ops[k]).run P w with
        | .ok .recover w' =>
          match recoverD cs with
          | some (v, cs') => wpOpsS P ops K (List.range' (k + 1) m) (a.put ops[k].dst v) cs' w'
          | none => wpOpsS P ops K (List.range' (k + 1) m) (a.put ops[k].dst .nilIface) cs w'
        | r => ops[k].upon P a (fun a' w' => wpOpsS P ops K (List.range' (k + 1) m) a' cs w') (fun e a' w' => K e a' cs w') r) := by
      intro hk'
      have := run hk'
      generalize (execOp a.eval ops[k]).run P w = r at this ⊢
      split
      · exact this.elim
      · exact this
    rw [List.range'_succ]
    simp only [wpOpsS, hok]
    simp only [cops] at h
    split at h
    · rename_i hg
      have hw : Region.wanted ops[k] (yielded ops a.tmps) = true := by simp [Region.wanted, hg]
      rw [if_pos hw]
      exact run2 h
    · rename_i j want hg
      unfold gk at h
      split at h
      · rename_i b hb
        have hy := gval_ok hs hb
        split at h
        · rename_i hbw
          have hw : Region.wanted ops[k] (yielded ops a.tmps) = true := by simp [Region.wanted, hg, hy, hbw]
          rw [if_pos hw]
          exact run2 h
        · rename_i hbw
          have hw : ¬ Region.wanted ops[k] (yielded ops a.tmps) = true := by simp [Region.wanted, hg, hy, hbw]
          rw [if_neg hw]
          exact ih (k + 1) _ _ (by omega) h sn ρ w (a.put ops[k].dst undef) hR (hs.put? hdk (undef_ok _ _)) (by rw [put_defers]; exact hdf) hE
      · rename_i hb
        have hw : ¬ Region.wanted ops[k] (yielded ops a.tmps) = true := by simp [Region.wanted, hg, gval_undef hs hb]
        rw [if_neg hw]
        exact ih (k + 1) _ _ (by omega) h sn ρ w (a.put ops[k].dst undef) hR (hs.put? hdk (undef_ok _ _)) (by rw [put_defers]; exact hdf) hE
      · exact h.elim

def dQX (Q : DM → Heap → Prop) : XQ := fun x s H => match x with
  | .normal => Q .ret H
  | .ret => Q .ret H
  | _ => False
/-- What recover returns. -/
def DM.rv : DM → AV
  | .ret => .nilif
  | .pan v => v
theorem ADef.intro {P : Program} {g : FuncId} {fn : Func} {id : Nat} {t0 : Tmp} {ts : Array TypeId} {ty : TypeId} {pos : String} {af : Array Edge} {os : List Oper} {rest : Code} {n : Nat} {args : List AV} {m : DM} {H : Heap} {Q : DM → Heap → Prop}
    (hf : P.funcs[g]? = some fn) (hb : fn.body = some (.seq (.region id (⟨some t0, .call ⟨.builtin .recover, #[], ts⟩, ty, pos, af, none⟩ :: os).toArray false) rest)) (hrs : fn.results = #[]) (hnt : Nat.beq fn.ntmps n = true) (hn : Nat.ble args.length n = true)
    (hok : codeOk n (.seq (.region id (⟨some t0, .call ⟨.builtin .recover, #[], ts⟩, ty, pos, af, none⟩ :: os).toArray false) rest) = true)
    (h : cops P (⟨some t0, .call ⟨.builtin .recover, #[], ts⟩, ty, pos, af, none⟩ :: os).toArray os (thenX (cwp P n ⟨[], H.length, []⟩ rest (dQX Q)) (dQX Q)) ((argsCh args 0 .nil).put t0 m.rv) H) : ADef P g args m H Q := by
  have hnt := Nat.eq_of_beq_eq_true hnt
  subst hnt
  simp only [codeOk, Bool.and_eq_true] at hok
  intro sn ρ w vs u hR hv hm
  refine callsD_of_wpS hf hb fun c₀ cs hu => ?_
  have hs := start_ok hv (Nat.le_of_ble_eq_true hn)
  have ht0 : t0 < fn.ntmps := by
    have := hok.1.1
    simp [dstOk] at this
    exact this.1
  refine wpS_seq (wpS_region ?_)
  generalize hops : (⟨some t0, .call ⟨.builtin .recover, #[], ts⟩, ty, pos, af, none⟩ :: os : List Oper).toArray = ops at *
  have h0 : ops[0]? = some ⟨some t0, .call ⟨.builtin .recover, #[], ts⟩, ty, pos, af, none⟩ := by rw [← hops]; rfl
  have hsz : ops.size = os.length + 1 := by rw [← hops]; simp
  have hl : ops.toList.drop 1 = os := by rw [← hops]; simp
  have hr : List.range ops.size = 0 :: List.range' 1 os.length := by
    rw [hsz, List.range_eq_range', List.range'_succ]
  rw [hr]
  have key : ∀ (cv : Value) (u' : FrameMode), VR sn ρ m.rv cv → settle u' = .returning →
      wpOpsS P ops (Exit.thenS (Code.wpS P rest (bodyPostS P fn c₀ cs fun e u' w' => (∃ v, e = .returned v) ∧ ∃ sn' ρ' H' m', Rel sn' ρ' H' w' ∧ Ext sn ρ H w sn' ρ' H' w' ∧ MR sn' ρ' m' (settle u') ∧ Q m' H'))
        (bodyPostS P fn c₀ cs fun e u' w' => (∃ v, e = .returned v) ∧ ∃ sn' ρ' H' m', Rel sn' ρ' H' w' ∧ Ext sn ρ H w sn' ρ' H' w' ∧ MR sn' ρ' m' (settle u') ∧ Q m' H'))
        (List.range' 1 os.length) ({ tmps := vs ++ Array.replicate (fn.ntmps - vs.size) undef, defers := [] : Act }.put (some t0) cv) ({ c₀ with mode := u' } :: cs) w := by
    intro cv u' hcv hset
    have fin : ∀ (e : Exit) (a' : Act) (w' : World), (e = .normal ∨ e = .ret) → a'.defers = [] → (∃ sn' ρ' H', Rel sn' ρ' H' w' ∧ ExtB H.length sn ρ H w sn' ρ' H' w' ∧ Q .ret H') →
        bodyPostS P fn c₀ cs (fun e u' w' => (∃ v, e = .returned v) ∧ ∃ sn' ρ' H' m', Rel sn' ρ' H' w' ∧ Ext sn ρ H w sn' ρ' H' w' ∧ MR sn' ρ' m' (settle u') ∧ Q m' H') e a' ({ c₀ with mode := u' } :: cs) w' := by
      rintro e a' w' he hd ⟨sn', ρ', H', g1, g2, g3⟩
      have hres : ∃ v, (results fn a'.tmps).run P w' = .ok v w' := by
        exact ⟨_, by simp [results, hrs]; rfl⟩
      obtain ⟨v, hv⟩ := hres
      rcases he with rfl | rfl <;> exact ⟨hd, u', rfl, v, hv, ⟨v, rfl⟩, sn', ρ', H', .ret, g1, g2.ext hR, by rw [hset]; trivial, g3⟩
    refine cops_partS (D := ⟨[], H.length, []⟩) (Q := thenX (cwp P fn.ntmps ⟨[], H.length, []⟩ rest (dQX Q)) (dQX Q)) hok.1.1 (sn0 := sn) (ρ0 := ρ) (H0 := H) (w0 := w) ?_ os.length 1 _ H (by omega) (by rw [hl, List.take_length]; exact h) sn ρ w _ hR (hs.put ht0 hcv) (by rw [put_defers]) (.refl (Nat.le_refl _))
    rintro e a' w' ⟨sn', ρ', H', s', x, h1, h2, h3, h4, h5, h6⟩
    have h4' : a'.defers = [] := h4
    cases x with
    | normal =>
      cases e <;> simp [AXR] at h1
      refine wpS_of_wp (wp_mono ((cwp_sound rest hok.2 _ _ _ h6).plain sn' ρ' w' a' h2 h3 h4 h5.len) ?_)
      rintro e2 a2 w2 ⟨sn2, ρ2, H2, s2, x2, g1, g2, g3, g4, g5, g6⟩
      cases x2 with
      | normal =>
        cases e2 <;> simp [AXR] at g1
        exact fin _ _ _ (.inl rfl) g4 ⟨sn2, ρ2, H2, g2, h5.trans g5, g6⟩
      | ret =>
        cases e2 <;> simp [AXR] at g1
        exact fin _ _ _ (.inr rfl) g4 ⟨sn2, ρ2, H2, g2, h5.trans g5, g6⟩
      | exit id => exact g6.elim
      | pan v => exact g6.elim
    | ret =>
      cases e <;> simp [AXR] at h1
      exact fin _ _ _ (.inr rfl) h4' ⟨sn', ρ', H', h2, h5, h6⟩
    | exit id => exact h6.elim
    | pan v => exact h6.elim
  simp only [wpOpsS, h0]
  rw [if_pos (by simp [Region.wanted])]
  have hrun : ∀ (a : Act), (execOp a.eval ⟨some t0, .call ⟨.builtin .recover, #[], ts⟩, ty, pos, af, none⟩).run P w = .ok .recover w := fun a => by
    simp [execOp, resolve, invoke, builtin]
  rw [hrun]
  simp only
  cases m with
  | ret =>
    have := hm.ret_inv
    subst this
    have hrec : recoverD (c₀ :: cs) = none := by simp [recoverD, hu]
    rw [hrec]
    have hc : c₀ = { c₀ with mode := .returning } := by rw [← hu]
    have := key .nilIface .returning (.nilif _) rfl
    rw [← hc] at this
    exact this
  | pan v =>
    obtain ⟨cv, rfl, hcv⟩ := hm.pan_inv
    have hrec : recoverD (c₀ :: cs) = some (cv, { c₀ with mode := .panicking [{ v := cv, recovered := true }] } :: cs) := by simp [recoverD, hu]
    rw [hrec]
    exact key cv _ hcv rfl
end Go.AM

set_option linter.unusedVariables false
set_option linter.unusedSimpArgs false
namespace Go.AM
section
variable {P : Program} {n : Nat} {fn : Func} {Q : CQ} {rest : Code} {f : Operand} {l : List Operand} {s : Ch} {H : Heap} {v : AV} {g : FuncId} {da first cap args : List AV} {R : DM → Heap → Prop}
theorem dfX_normal : dfX P n fn Q rest f l .normal s H = dF P n fn Q rest (cev s f) (l.map (cev s)) s H := id rfl
theorem dfX_pan : dfX P n fn Q rest f l (.pan v) s H = Q (.pan v) H := id rfl
theorem dF_func : dF P n fn Q rest (.func (.func g) first cap) args s H = (Enters P g ∧ ltL H.length (first ++ args ++ cap) = true ∧ ∀ d, cwp P n ⟨[d], H.length, []⟩ rest (lX P fn Q g (first ++ args ++ cap)) s H) := id rfl
theorem lX_normal : lX P fn Q g da .normal s H = ADef P g da .ret H (postD P fn Q s) := id rfl
theorem lX_ret : lX P fn Q g da .ret s H = ADef P g da .ret H (postD P fn Q s) := id rfl
theorem lX_pan : lX P fn Q g da (.pan v) s H = ADef P g da (.pan v) H (postD P fn Q s) := id rfl
theorem postD_ret : postD P fn Q s .ret H = packRes (aResults P s H fn.results.toList) (fun v => Q (.ret v) H) := id rfl
theorem postD_pan : postD P fn Q s (.pan v) H = Q (.pan v) H := id rfl
theorem dQX_normal : dQX R .normal s H = R .ret H := id rfl
theorem dQX_ret : dQX R .ret s H = R .ret H := id rfl
theorem rv_ret : DM.rv .ret = .nilif := id rfl
theorem rv_pan : DM.rv (.pan v) = v := id rfl
theorem ltL_nil {m : Nat} : ltL m [] = true := id rfl
theorem ltL_cons {m : Nat} {x : AV} {xs : List AV} : ltL m (x :: xs) = (x.lt m && ltL m xs) := id rfl
theorem lt_ptr {m r i j : Nat} : (AV.ptr r i j).lt m = decide (r < m) := id rfl
theorem ADef.mono {m : DM} {R' : DM → Heap → Prop} (h : ADef P g da m H R) (hr : ∀ m H, R m H → R' m H) : ADef P g da m H R' := fun sn ρ w vs u hR hv hm =>
  (h sn ρ w vs u hR hv hm).mono fun e u' w' ⟨h1, sn', ρ', H', m', g1, g2, g3, g4⟩ => ⟨h1, sn', ρ', H', m', g1, g2, g3, hr _ _ g4⟩
end
attribute [go_sem] dfX_normal dfX_pan dF_func lX_normal lX_ret lX_pan postD_ret postD_pan dQX_normal dQX_ret rv_ret rv_pan ltL_nil ltL_cons lt_ptr List.dropLast_cons₂ List.dropLast_singleton
end Go.AM
