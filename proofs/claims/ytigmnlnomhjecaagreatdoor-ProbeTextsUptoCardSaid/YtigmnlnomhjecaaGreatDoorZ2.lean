/- Texts joined, without what is not needed. No condition. -/
import Derived.Test.YtigmnlnomhjecaaGreatDoorZ1
import Derived.Laws.BytesString
import Derived.RangeFuncRecord
import Derived.RangeFuncIn
import Derived.OrdersIn
import Derived.LoopNIn
import Derived.Lib.Overlaps
import Derived.LoopN
import Derived.Orders
set_option linter.unusedVariables false
set_option linter.unusedSimpArgs false
namespace Go.AM
def rowByte : List AV → Option UInt8
  | [.int .u8 n] => some (UInt8.ofNat n.toNat)
  | _ => none
def rowBytes : List (List AV) → Option (List UInt8)
  | [] => some []
  | r :: rs => match rowByte r, rowBytes rs with
    | some b, some bs => some (b :: bs)
    | _, _ => none
def aBytesStr (o : Option (List UInt8)) : AR := match o with
  | some bs => .val (.str ⟨bs.toArray⟩)
  | none => .bad
def aConvS (P : Program) (s d : TD) (x : AV) : Option AR := match s, d, x with
  | .slice e, .str, .view _ _ xs => some (match tinfo P e with
    | some ie => match ie.desc with
      | .int .u8 => aBytesStr (rowBytes xs)
      | _ => .bad
    | none => .bad)
  | _, _, _ => none
def aConv (P : Program) (src dst : TypeId) (x : AV) : AR := match tinfo P src, tinfo P dst with
  | some i, some j => (aConvS P i.desc j.desc x).getD (aConvNum P src dst x)
  | _, _ => .bad
theorem foldl_push (ns : List Int) : ∀ (s : ByteArray), ns.foldl (fun r n => r.push (UInt8.ofNat n.toNat)) s = ⟨s.data ++ (ns.map fun n => UInt8.ofNat n.toNat).toArray⟩ := by
  induction ns with
  | nil => intro s; simp
  | cons n ns ih =>
    intro s
    rw [List.foldl_cons, ih]
    congr 1
    simp [ByteArray.push]
theorem rowBytes_ints : ∀ {xs : List (List AV)} {bs : List UInt8}, rowBytes xs = some bs → ∃ ns : List Int, xs = ns.map (fun n => [.int .u8 n]) ∧ bs = ns.map fun n => UInt8.ofNat n.toNat
  | [], bs, h => by simp [rowBytes] at h; subst h; exact ⟨[], rfl, rfl⟩
  | r :: rs, bs, h => by
    simp only [rowBytes] at h
    split at h
    · rename_i b bs' h1 h2
      injection h with h
      subst h
      obtain ⟨ns, rfl, rfl⟩ := rowBytes_ints h2
      unfold rowByte at h1
      split at h1
      · rename_i n
        injection h1 with h1
        subst h1
        exact ⟨n :: ns, rfl, rfl⟩
      · cases h1
    · cases h
theorem rowBytes_map (l : List UInt8) : rowBytes (l.map fun b => [.int .u8 (b.toNat : Int)]) = some l := by
  induction l with
  | nil => rfl
  | cons b l ih => simp [rowBytes, rowByte, ih]
theorem RowsR.ints {sn : Snap} {ρ : Env} {ns : List Int} {c : Array Value} {k : IntKind} (h : RowsR sn ρ 1 (ns.map fun n => [.int k n]) c) : c = (ns.map (Value.int k)).toArray := by
  obtain ⟨h1, h2, h3⟩ := h
  apply Array.ext_getElem?
  intro i
  simp only [List.length_map, Nat.mul_one] at h1
  by_cases hi : i < ns.length
  · obtain ⟨v, e1, e2, e3⟩ := h3 i [.int k ns[i]] (by simp [hi]) 0 _ rfl
    cases e3
    simp only [Nat.mul_one, Nat.add_zero] at e1
    rw [e1]
    simp [hi]
  · have h5 : c.size ≤ i := by rw [h1]; omega
    have h6 : (ns.map (Value.int k)).toArray.size ≤ i := by simp; omega
    rw [Array.getElem?_eq_none h5, Array.getElem?_eq_none h6]
theorem aConv_ok {P : Program} {sn : Snap} {ρ : Env} {H : Heap} {w : World} (hR : Rel sn ρ H w) {src dst : TypeId} {x : AV} {cx : Value} (hx : VR sn ρ x cx) : (aConv P src dst x).ok P ((asNext (convert src dst cx)).run P w) sn ρ H w := by
  unfold aConv
  split
  · rename_i i j hi hj
    cases hs : aConvS P i.desc j.desc x with
    | none => simp only [Option.getD_none]; exact aConvNum_ok hx
    | some r =>
      simp only [Option.getD_some]
      unfold aConvS at hs
      split at hs
      · rename_i e full sz xs e1 e2
        injection hs with hs
        subst hs
        split
        · rename_i ie hie
          split
          · rename_i e3
            cases hb : rowBytes xs with
            | none => trivial
            | some bs =>
              simp only [aBytesStr]
              obtain ⟨ns, rfl, rfl⟩ := rowBytes_ints hb
              obtain ⟨d, hd, hdd, hun⟩ := run_under_ti hi w
              obtain ⟨d2, hd2, hdd2, hun2⟩ := run_under_ti hj w
              obtain ⟨d3, hd3, hdd3, hun3⟩ := run_under_ti hie w
              rw [e1] at hdd; rw [e2] at hdd2; rw [e3] at hdd3
              cases d <;> simp [TD.of] at hdd
              subst hdd
              cases d2 <;> simp [TD.of] at hdd2
              cases d3 <;> simp [TD.of] at hdd3
              subst hdd3
              obtain ⟨a, b, o, c, vs, rfl, hl, hm, hf, ha, hz, hcl, ho, hr⟩ := hx.view_inv
              have hsz : ns.map (fun n => [AV.int .u8 n]) = [] ∨ sz = 1 := by
                cases ns with
                | nil => exact .inl rfl
                | cons n ns => exact .inr (hz 0 _ rfl).symm
              obtain ⟨g1, cc, g2, g3⟩ := elems_ok (P := P) hR hx rfl hsz rfl
              have hcc := RowsR.ints g3
              subst hcc
              replace g2 := g2 w rfl
              refine ⟨.string ⟨(ns.map fun n => UInt8.ofNat n.toNat).toArray⟩, ?_, .str _ _⟩
              have hrun : (Conv.bytesToString (.slice a (ns.map fun n => [AV.int .u8 n]).length c)).run P w = .ok (.string ⟨(ns.map fun n => UInt8.ofNat n.toNat).toArray⟩) w := by
                cases a with
                | none =>
                  have : ns = [] := by
                    cases ns with
                    | nil => rfl
                    | cons n ns => have := ha (by simp); cases this
                  subst this
                  simp [Conv.bytesToString]
                  rfl
                | some ad =>
                  simp only [Builtin.firstCells, Nat.mul_one] at g2
                  have := run_bytesToString w ad _ c ns g2
                  rw [this, foldl_push]
                  simp
              simp only [asNext, Sem.run_bind, run_convert_bytes_string w src dst _ _ _ _ hun hun3 hun2, hrun, Result.andThen_ok, Sem.run_pure]
          · trivial
        · trivial
      · cases hs
  · trivial
def aArrPtrD (P : Program) (d : TD) (x : AV) : AR := match d, x with
  | .array n e, .view _ sz xs => match tinfo P e with
    | some ie => .chk (sz = 1 ∧ ie.size = 1 ∧ 0 < n ∧ n ≤ xs.length) (.val (.cptr xs.flatten 0))
    | none => .bad
  | _, _ => .bad
def aArrPtr (P : Program) (t : TypeId) (x : AV) : AR := match tinfo P t with
  | some i => aArrPtrD P i.desc x
  | none => .bad
theorem flatten_one {xs : List (List AV)} (h : ∀ (i : Nat) (row : List AV), xs[i]? = some row → row.length = 1) : ∀ (k : Nat) x, xs.flatten[k]? = some x → xs[k]? = some [x] := by
  induction xs with
  | nil => intro k x hx; simp at hx
  | cons r rs ih =>
    intro k x hx
    have h0 := h 0 r rfl
    obtain ⟨y, rfl⟩ := List.length_eq_one_iff.1 h0
    cases k with
    | zero => simp at hx; subst hx; rfl
    | succ k =>
      simp only [List.flatten_cons, List.cons_append, List.nil_append, List.getElem?_cons_succ] at hx ⊢
      exact ih (fun i row hi => h (i + 1) row (by simpa using hi)) k x hx
theorem aArrPtr_ok {P : Program} {sn : Snap} {ρ : Env} {H : Heap} {w : World} {t : TypeId} {x : AV} {cx : Value} (hx : VR sn ρ x cx) : (aArrPtr P t x).ok P ((asNext (Instr.arrayAt t cx)).run P w) sn ρ H w := by
  unfold aArrPtr
  split
  · rename_i i hi
    unfold aArrPtrD
    split
    · rename_i n e full sz xs he
      split
      · rename_i ie hie
        rintro ⟨h1, h2, h3, h4⟩
        subst h1
        obtain ⟨d, hd, hdd, hun⟩ := run_under_ti hi w
        rw [he] at hdd
        cases d <;> simp [TD.of] at hdd
        obtain ⟨rfl, rfl⟩ := hdd
        obtain ⟨a, b, o, c, vs, rfl, hl, hm, hf, ha, hz, hcl, ho, hr⟩ := hx.view_inv
        have hne : xs ≠ [] := fun e => by subst e; simp at h4; omega
        obtain rfl := ha hne
        refine ⟨.pointer (some ⟨b, o, none⟩), ?_, ?_⟩
        · have : ¬ (xs.length < n) := by omega
          simp [asNext, Instr.arrayAt, hd, this]
        · have key := flatten_one hz
          refine VR.cptr' (o := o) (vs := fun k => vs k 0) (fun k x hk => ?_) (fun k x hk => ?_) (fun k x hk => ?_) rfl
          · have := hcl k _ (key k x hk) 0 x rfl
            simpa using this
          · exact ho k _ (key k x hk) 0 x rfl
          · exact hr k _ (key k x hk) 0 x rfl
      · trivial
    · trivial
  · trivial
def aCopyB (esz : Nat) (b : Option Blk) (r off len : Nat) (sz2 : Nat) (xs2 : List (List AV)) (nx : Nat) (H : Heap) : AR := match b with
  | some (.rows sz xs) => .chk (sz = esz ∧ (xs2 = [] ∨ sz2 = esz) ∧ xs2.length = nx ∧ nx ≤ len ∧ off ≤ xs.length) (.upd (H.set r (.rows sz (xs.take off ++ xs2 ++ xs.drop (off + nx)))) (.int .i64 (nx : Int)))
  | _ => .bad
def aCopyR (esz : Nat) (b : Option Blk) (r i j len : Nat) (sz2 : Nat) (xs2 : List (List AV)) (nx : Nat) (H : Heap) : AR := match b with
  | some (.rows sz xs) => .chk (esz = 1 ∧ (xs2 = [] ∨ sz2 = 1) ∧ xs2.length = nx ∧ nx ≤ len ∧ i < xs.length ∧ j + len ≤ sz) (.upd (H.set r (.rows sz (xs.set i (splice (rowAt xs i) j xs2.flatten)))) (.int .i64 (nx : Int)))
  | _ => .bad
def aCopyE (esz : Nat) (d : AV) (xe : Option (Nat × List (List AV))) (nx : Nat) (H : Heap) : AR := match d, xe with
  | .sl r off len _, some (sz2, xs2) => aCopyB esz H[r]? r off len sz2 xs2 nx H
  | .rsl r i j len, some (sz2, xs2) => aCopyR esz H[r]? r i j len sz2 xs2 nx H
  | _, _ => .bad
def aCopy (P : Program) (t : TypeId) (d x : AV) (H : Heap) : AR := match tinfo P t with
  | some i => match i.desc with
    | .slice e => match tinfo P e with
      | some ie => aCopyE ie.size d (aElems x H) (aLenOf x) H
      | none => .bad
    | _ => .bad
  | none => .bad
def cutS (b : Bool) (x : AV) (r o len : Nat) (k : Option Nat) : AV := match b with
  | true => x
  | false => .sl r o len k
def shortS (d x : AV) : AV := match d, x with
  | .sl _ _ len (some _), .sl r o nx k => cutS (decide (nx ≤ len)) (.sl r o nx k) r o len none
  | _, x => x
def aCopyS (P : Program) (t : TypeId) (d x : AV) (H : Heap) : AR := aCopy P t d (shortS d x) H
theorem set_self {α : Type} {x : α} : ∀ {l : List α} {i : Nat}, l[i]? = some x → l.set i x = l
  | [], _, h => by simp at h
  | y :: l, 0, h => by simp at h; simp [h]
  | y :: l, i + 1, h => by simp at h; simp [set_self h]
theorem run_copy {P : Program} {t t2 e : TypeId} {i ie : TI} (ht : tinfo P t = some i) (hd : i.desc = .slice e) (he : tinfo P e = some ie) {w : World} {a : Option Addr} {len c n2 : Nat} {cx : Value} {new : Array Value}
    (hlen : (Builtin.lenOf cx).run P w = .ok n2 w) (hnew : (Builtin.firstCells ie.size n2 cx).run P w = .ok new w) (hle : n2 ≤ len) (ty : TypeId) {w' : World}
    (hst : (match a with | some a => (storeCells a new.toList).run P w | none => .ok () w) = .ok () w') : (Builtin.copy_ #[t, t2] ty #[.slice a len c, cx]).run P w = .ok (.int .i64 (n2 : Int)) w' := by
  obtain ⟨d, g1, g2, g3⟩ := run_under_ti ht w
  rw [hd] at g2
  cases d <;> simp [TD.of] at g2
  subst g2
  have hmin : Nat.min n2 len = n2 := Nat.min_eq_left hle
  cases a with
  | none =>
    injection hst with _ hst
    subst hst
    simp [Builtin.copy_, g1, hlen, hmin, run_size_ti he, hnew, goInt]
  | some a =>
    simp only at hst
    simp [Builtin.copy_, g1, hlen, hmin, run_size_ti he, hnew, hst, goInt]
theorem rows_write {P : Program} {sn : Snap} {ρ : Env} {H : Heap} {w : World} (hR : Rel sn ρ H w) {r sz : Nat} {xs xs2 : List (List AV)} {p : Place} (hrow : H[r]? = some (.rows sz xs)) (hp : ρ r = some p) {off : Nat} (hoff : off ≤ xs.length) {new : Array Value} (g3 : RowsR sn ρ sz xs2 new) (hfit : (off + xs2.length) * sz ≤ p.n) :
    ∃ w', (storeCells ⟨p.b, off * p.sz, none⟩ new.toList).run P w = .ok () w' ∧ Rel sn ρ (H.set r (.rows sz (xs.take off ++ xs2 ++ xs.drop (off + xs2.length)))) w' ∧ Ext sn ρ H w sn ρ (H.set r (.rows sz (xs.take off ++ xs2 ++ xs.drop (off + xs2.length)))) w' := by
  obtain ⟨cc, t', fr, h1, h2, h3, h4, h5, h6, h7, h8⟩ := hR.rows hrow hp
  have hnl : new.toList.length = xs2.length * sz := by rw [Array.length_toList, g3.1]
  have hfitc : (off + xs2.length) * sz ≤ cc.size := by rw [← h4]; exact hfit
  rw [Nat.add_mul] at hfitc
  obtain ⟨c', s1, s2, s3⟩ := run_storeCells_blk P p.b (off * sz) t' fr new.toList 0 cc w h1 (by omega) g3.oneCell h8
  rw [← h3] at s1
  obtain ⟨r1, r2⟩ := hR.update (blk' := .rows sz (xs.take off ++ xs2 ++ xs.drop (off + xs2.length))) (obj := .cells c' t' fr) hrow trivial hp (by
    have hll : (xs.take off ++ xs2 ++ xs.drop (off + xs2.length)).length * sz ≤ cc.size := by
      by_cases hx3 : xs.length ≤ off + xs2.length
      · rw [List.drop_eq_nil_of_le hx3, List.append_nil, List.length_append, show (xs.take off).length = off by simp; omega, Nat.add_mul]; exact hfitc
      · rw [show (xs.take off ++ xs2 ++ xs.drop (off + xs2.length)).length = xs.length by simp []; omega]; exact h5
    have key : ∀ (m : Nat) row, (xs.take off ++ xs2 ++ xs.drop (off + xs2.length))[m]? = some row → (off ≤ m ∧ m < off + xs2.length ∧ xs2[m - off]? = some row) ∨ ((m < off ∨ off + xs2.length ≤ m) ∧ xs[m]? = some row) := fun m row hm => by
      have hto : (xs.take off).length = off := by simp; omega
      rw [List.append_assoc, List.getElem?_append, hto] at hm
      split at hm
      · rename_i hlt
        rw [List.getElem?_take, if_pos hlt] at hm
        exact .inr ⟨.inl hlt, hm⟩
      · rename_i hge
        rw [List.getElem?_append] at hm
        split at hm
        · exact .inl ⟨by omega, by omega, hm⟩
        · rw [List.getElem?_drop] at hm
          exact .inr ⟨.inr (by omega), by rw [← hm]; congr 1; omega⟩
    refine ⟨h3, h4.trans s2.symm, by rw [s2]; exact hll, fun m row hm => ?_, fun m row hm j y hj => ?_, by rw [s2]; exact h8⟩
    · rcases key m row hm with ⟨_, _, hm⟩ | ⟨_, hm⟩
      · exact g3.2.1 _ row hm
      · exact h6 m row hm
    · rw [s3]
      simp only [Nat.add_zero, hnl]
      rcases key m row hm with ⟨k1, k2, hm⟩ | ⟨k1, hm⟩
      · have hjl : j < sz := by have := (List.getElem?_eq_some_iff.1 hj).1; rw [g3.2.1 _ row hm] at this; exact this
        have hlt := mul_lt_of (i := m - off) (n := xs2.length) (by omega) hjl
        have hmul : m * sz = off * sz + (m - off) * sz := by rw [← Nat.add_mul]; congr 1; omega
        rw [if_pos (by omega)]
        obtain ⟨v, e1, e2, e3⟩ := g3.2.2 _ row hm j y hj
        refine ⟨v, ?_, e2, e3⟩
        rw [Array.getElem?_toList, ← e1]
        congr 1
        omega
      · have hjl : j < sz := by have := (List.getElem?_eq_some_iff.1 hj).1; rw [h6 m row hm] at this; exact this
        rw [if_neg]
        · exact h7 m row hm j y hj
        · rcases k1 with k1 | k1
          · have := mul_lt_of (i := m) (n := off) k1 hjl
            omega
          · have : (off + xs2.length) * sz ≤ m * sz := Nat.mul_le_mul_right _ k1
            rw [Nat.add_mul] at this
            omega)
  exact ⟨_, s1, r1, r2⟩
theorem aCopy_ok {P : Program} {sn : Snap} {ρ : Env} {H : Heap} {w : World} (hR : Rel sn ρ H w) {t t2 ty : TypeId} {s x : AV} {cs cx : Value} (hs : VR sn ρ s cs) (hx : VR sn ρ x cx) :
    (aCopy P t s x H).ok P ((asNext (Builtin.copy_ #[t, t2] ty #[cs, cx])).run P w) sn ρ H w := by
  unfold aCopy
  split
  · rename_i i ht
    split
    · rename_i e hd
      split
      · rename_i ie hie
        unfold aCopyE
        split
        · rename_i r off len cap sz2 xs2 hel
          unfold aCopyB
          split
          · rename_i sz xs hrow
            rintro ⟨hsz, hsz2, hnx, hle, hfit⟩
            subst hsz
            obtain ⟨g1, new, g2, g3⟩ := elems_ok (P := P) hR hx hel hsz2 hnx
            replace g2 := g2 w rfl
            rw [hnx] at g1 g2
            obtain ⟨a, c, rfl, hlc, hmx, hcc, hcase⟩ := hs.sl_inv
            have hz0 : new.toList = [] → new = #[] := fun e => by simpa using e
            rcases hcase with rfl | ⟨p, hp, rfl, hpn⟩
            · have h0 : aLenOf x = 0 := by omega
              have e2 : xs2 = [] := List.length_eq_zero_iff.1 (by omega)
              subst e2
              have hnil : new = #[] := by have := g3.1; simpa using this
              subst hnil
              have := run_copy (t2 := t2) (a := a) (c := 0) (w' := w) ht hd hie g1 g2 hle ty (by cases a <;> simp [storeCells])
              have e3 : xs.take off ++ [] ++ xs.drop (off + aLenOf x) = xs := by rw [h0]; simp
              rw [e3, set_self hrow]
              exact ⟨_, w, sn, ρ, .inl (by simp [asNext, this]), .int _ _ _, hR, .refl _ _ _ _⟩
            · obtain ⟨cc, t', fr, h1, h2, h3, h4, h5, h6, h7, h8⟩ := hR.rows hrow hp
              have hnl : new.toList.length = aLenOf x * ie.size := by rw [Array.length_toList, g3.1, hnx]
              have hfitc : (off + aLenOf x) * ie.size ≤ cc.size := by rw [← h4, ← h3]; exact Nat.le_trans (Nat.mul_le_mul_right _ (by omega)) hpn
              rw [Nat.add_mul] at hfitc
              obtain ⟨c', s1, s2, s3⟩ := run_storeCells_blk P p.b (off * ie.size) t' fr new.toList 0 cc w h1 (by omega) g3.oneCell h8
              rw [← h3] at s1
              have := run_copy (t2 := t2) (a := some ⟨p.b, off * p.sz, none⟩) (c := c) ht hd hie g1 g2 hle ty s1
              obtain ⟨r1, r2⟩ := hR.update (blk' := .rows ie.size (xs.take off ++ xs2 ++ xs.drop (off + aLenOf x))) (obj := .cells c' t' fr) hrow trivial hp (by
                have hll : (xs.take off ++ xs2 ++ xs.drop (off + aLenOf x)).length * ie.size ≤ cc.size := by
                  by_cases hx3 : xs.length ≤ off + aLenOf x
                  · rw [List.drop_eq_nil_of_le hx3, List.append_nil, List.length_append, hnx, show (xs.take off).length = off by simp; omega, Nat.add_mul]; exact hfitc
                  · rw [show (xs.take off ++ xs2 ++ xs.drop (off + aLenOf x)).length = xs.length by simp [hnx]; omega]; exact h5
                have key : ∀ (m : Nat) row, (xs.take off ++ xs2 ++ xs.drop (off + aLenOf x))[m]? = some row → (off ≤ m ∧ m < off + aLenOf x ∧ xs2[m - off]? = some row) ∨ ((m < off ∨ off + aLenOf x ≤ m) ∧ xs[m]? = some row) := fun m row hm => by
                  have hto : (xs.take off).length = off := by simp; omega
                  rw [List.append_assoc, List.getElem?_append, hto] at hm
                  split at hm
                  · rename_i hlt
                    rw [List.getElem?_take, if_pos hlt] at hm
                    exact .inr ⟨.inl hlt, hm⟩
                  · rename_i hge
                    rw [List.getElem?_append, hnx] at hm
                    split at hm
                    · exact .inl ⟨by omega, by omega, hm⟩
                    · rw [List.getElem?_drop] at hm
                      exact .inr ⟨.inr (by omega), by rw [← hm]; congr 1; omega⟩
                refine ⟨h3, h4.trans s2.symm, by rw [s2]; exact hll, fun m row hm => ?_, fun m row hm j y hj => ?_, by rw [s2]; exact h8⟩
                · rcases key m row hm with ⟨_, _, hm⟩ | ⟨_, hm⟩
                  · exact g3.2.1 _ row hm
                  · exact h6 m row hm
                · rw [s3]
                  simp only [Nat.add_zero, hnl]
                  rcases key m row hm with ⟨k1, k2, hm⟩ | ⟨k1, hm⟩
                  · have hjl : j < ie.size := by have := (List.getElem?_eq_some_iff.1 hj).1; rw [g3.2.1 _ row hm] at this; exact this
                    have hlt := mul_lt_of (i := m - off) (n := aLenOf x) (by omega) hjl
                    have hmul : m * ie.size = off * ie.size + (m - off) * ie.size := by rw [← Nat.add_mul]; congr 1; omega
                    rw [if_pos (by omega)]
                    obtain ⟨v, e1, e2, e3⟩ := g3.2.2 _ row hm j y hj
                    refine ⟨v, ?_, e2, e3⟩
                    rw [Array.getElem?_toList, ← e1]
                    congr 1
                    omega
                  · have hjl : j < ie.size := by have := (List.getElem?_eq_some_iff.1 hj).1; rw [h6 m row hm] at this; exact this
                    rw [if_neg]
                    · exact h7 m row hm j y hj
                    · rcases k1 with k1 | k1
                      · have := mul_lt_of (i := m) (n := off) k1 hjl
                        omega
                      · have : (off + aLenOf x) * ie.size ≤ m * ie.size := Nat.mul_le_mul_right _ k1
                        rw [Nat.add_mul] at this
                        omega)
              exact ⟨_, _, sn, ρ, .inl (by simp [asNext, this]), .int _ _ _, r1, r2⟩
          · trivial
        · rename_i r ei j len sz2 xs2 hel
          unfold aCopyR
          split
          · rename_i sz xs hrow
            rintro ⟨hsz, hsz2, hnx, hle, hei, hfit⟩
            rw [← hsz] at hsz2
            obtain ⟨g1, new, g2, g3⟩ := elems_ok (P := P) hR hx hel hsz2 hnx
            replace g2 := g2 w rfl
            rw [hnx] at g1 g2
            rw [hsz] at g3
            obtain ⟨p, hp, rfl⟩ : ∃ p, ρ r = some p ∧ cs = .slice (some ⟨p.b, ei * p.sz + j, none⟩) len len := by cases hs; rename_i p hp _; exact ⟨p, hp, rfl⟩
            obtain ⟨cc, t', fr, h1, h2, h3, h4, h5, h6, h7, h8⟩ := hR.rows hrow hp
            subst h3
            have hnl : new.toList.length = aLenOf x := by rw [Array.length_toList, g3.1, hnx, Nat.mul_one]
            have hrow1 : xs[ei]? = some xs[ei] := List.getElem?_eq_getElem hei
            have hra : rowAt xs ei = xs[ei] := by simp [rowAt, hrow1]
            have hrl := h6 ei _ hrow1
            have hfl : xs2.flatten.length = aLenOf x := by
              rw [List.length_flatten, show xs2.map List.length = List.replicate xs2.length 1 from List.eq_replicate_iff.2 ⟨by simp, fun b hb => by
                obtain ⟨row, hr, rfl⟩ := List.mem_map.1 hb
                obtain ⟨k, hk⟩ := List.getElem?_of_mem hr
                exact g3.2.1 k row hk⟩]
              simp [hnx]
            have hfitc : ei * p.sz + j + new.toList.length ≤ cc.size := by
              have : (ei + 1) * p.sz ≤ xs.length * p.sz := Nat.mul_le_mul_right _ hei
              rw [Nat.succ_mul] at this
              omega
            obtain ⟨c', s1, s2, s3⟩ := run_storeCells_blk P p.b (ei * p.sz + j) t' fr new.toList 0 cc w h1 (by simpa using hfitc) g3.oneCell h8
            have := run_copy (t2 := t2) (a := some ⟨p.b, ei * p.sz + j, none⟩) (c := len) ht hd hie g1 g2 hle ty s1
            have hjl : j + xs2.flatten.length ≤ (rowAt xs ei).length := by rw [hra, hrl, hfl]; omega
            obtain ⟨r1, r2⟩ := hR.update (blk' := .rows p.sz (xs.set ei (splice (rowAt xs ei) j xs2.flatten))) (obj := .cells c' t' fr) hrow trivial hp (by
              refine ⟨rfl, h4.trans s2.symm, by simpa [s2] using h5, fun a row ha => ?_, fun a row ha k y hk => ?_, by rw [s2]; exact h8⟩
              · rcases getElem?_set_list ha with ⟨rfl, rfl⟩ | ⟨_, ha⟩
                · rw [splice_length hjl, hra, hrl]
                · exact h6 a row ha
              · have hkl : k < p.sz := by
                  have hkk := (List.getElem?_eq_some_iff.1 hk).1
                  rcases getElem?_set_list ha with ⟨rfl, rfl⟩ | ⟨_, ha⟩
                  · rw [splice_length hjl, hra, hrl] at hkk; exact hkk
                  · rw [h6 a row ha] at hkk; exact hkk
                rw [s3]
                simp only [Nat.add_zero]
                rcases getElem?_set_list ha with ⟨rfl, rfl⟩ | ⟨hae, ha⟩
                · rw [splice_get hjl] at hk
                  split at hk
                  · rename_i hin
                    have hx2 := flatten_one g3.2.1 _ _ hk
                    obtain ⟨u, hu1, hu2, hu3⟩ := g3.2.2 _ _ hx2 0 y rfl
                    rw [if_pos (by omega)]
                    refine ⟨u, ?_, hu2, hu3⟩
                    rw [Array.getElem?_toList, ← hu1]
                    congr 1
                    omega
                  · rename_i hout
                    rw [if_neg (by omega)]
                    rw [hra] at hk
                    exact h7 a _ hrow1 k y hk
                · rw [if_neg]
                  · exact h7 a row ha k y hk
                  · intro hin
                    have : a * p.sz + k = ei * p.sz + (k + a * p.sz - ei * p.sz) := by omega
                    exact hae (mul_inj_of hkl (by omega) this).1)
            exact ⟨_, _, sn, ρ, .inl (by simp [asNext, this]), .int _ _ _, r1, r2⟩
          · trivial
        · trivial
      · trivial
    · trivial
  · trivial
theorem aCopyS_ok {P : Program} {sn : Snap} {ρ : Env} {H : Heap} {w : World} (hR : Rel sn ρ H w) {t t2 ty : TypeId} {s x : AV} {cs cx : Value} (hs : VR sn ρ s cs) (hx : VR sn ρ x cx) :
    (aCopyS P t s x H).ok P ((asNext (Builtin.copy_ #[t, t2] ty #[cs, cx])).run P w) sn ρ H w := by
  unfold aCopyS shortS
  split
  · rename_i r0 o0 len c0 r o nx k
    by_cases hle : nx ≤ len
    · rw [decide_eq_true hle]
      exact aCopy_ok hR hs hx
    · rw [decide_eq_false hle]
      obtain ⟨a1, k1, rfl, g1, _, _, q1⟩ := hs.sl_inv
      have hx2 := hx
      obtain ⟨a2, k2, rfl, g2, m2, _, q2⟩ := hx2.sl_inv
      have hy : VR sn ρ (.sl r o len none) (.slice a2 len k2) := by
        rcases q2 with h0 | ⟨p, hp, rfl, hn⟩
        · omega
        · exact .sl ρ r o len k2 none _ p hp (fun _ => rfl) (by omega) m2 hn (fun _ h => by cases h)
      have := aCopy_ok (P := P) hR (t := t) (t2 := t2) (ty := ty) hs hy
      have e : ∀ w : World, (asNext (Builtin.copy_ #[t, t2] ty #[.slice a1 len k1, .slice a2 nx k2])).run P w = (asNext (Builtin.copy_ #[t, t2] ty #[.slice a1 len k1, .slice a2 len k2])).run P w := fun w => by
        have m1 : Nat.min nx len = len := Nat.min_eq_right (by omega)
        have m2 : Nat.min len len = len := Nat.min_self _
        cases a2 <;> simp [asNext, Builtin.copy_, Builtin.lenOf, m1, m2, Builtin.firstCells]
      rw [e]
      exact this
  · exact aCopy_ok hR hs hx
def isI : AV → Bool
  | .int _ _ => true
  | _ => false
def aAppendZB (ie : TI) (b : Option Blk) (r off len c : Nat) (n : Int) (H : Heap) : AR := match b with
  | some (.rows sz xs) => .chk (off = 0 ∧ len ≤ xs.length ∧ sz = ie.size ∧ 0 ≤ n ∧ c < len + n.toNat ∧ len + n.toNat ≤ 68719476736 ∧ ie.bytes ≤ 1024 ∧ ie.zero.length = ie.size ∧ ie.zero.all AV.one = true ∧ 0 < ie.size)
      (.upd (H ++ [.rows ie.size (xs.take len ++ List.replicate n.toNat ie.zero)]) (.sl H.length 0 (len + n.toNat) none))
  | _ => .bad
def aAppendZ (P : Program) (t t2 : TypeId) (s x : AV) (H : Heap) : AR := match tinfo P t, tinfo P t2, s, x with
  | some i, some i2, .sl r off len (some c), .int _ n => match i.desc, i2.desc with
    | .slice e, .int _ => match tinfo P e with
      | some ie => aAppendZB ie H[r]? r off len c n H
      | none => .bad
    | _, _ => .bad
  | _, _, _, _ => .bad
def aAppX (b : Bool) (P : Program) (t t2 : TypeId) (s x : AV) (H : Heap) : AR := match b with
  | true => aAppendZ P t t2 (norm0 s) x H
  | false => aAppendN P t t2 s x H
def aAppendM (P : Program) (t t2 : TypeId) (s x : AV) (H : Heap) : AR := aAppX (isI x) P t t2 s x H
theorem aAppendZ_ok {P : Program} {sn : Snap} {ρ : Env} {H : Heap} {w : World} (hR : Rel sn ρ H w) {t t2 ty : TypeId} {s x : AV} {cs cx : Value} (hs : VR sn ρ s cs) (hx : VR sn ρ x cx) :
    (aAppendZ P t t2 s x H).ok P ((asNext (Builtin.append_ #[t, t2] ty #[cs, cx])).run P w) sn ρ H w := by
  unfold aAppendZ
  split
  · rename_i i i2 r off len c kk n ht ht2
    split
    · rename_i e kd hd hd2
      split
      · rename_i ie hie
        unfold aAppendZB
        split
        · rename_i sz xs hrow
          rintro ⟨hoff, hln, hsz, h0, hlt, hb, hby, hzl, hone, hpos⟩
          subst hoff hsz
          obtain ⟨m, rfl⟩ := Int.eq_ofNat_of_zero_le h0
          rw [Int.toNat_natCast] at hlt hb
          rw [Int.toNat_natCast]
          obtain rfl : cx = .int kk (m : Int) := by cases hx; rfl
          obtain ⟨a, c', rfl, hlc, hmx, hcc, hcase⟩ := hs.sl_inv
          obtain rfl := hcc c rfl
          have hel1 : aElems (.sl r 0 len (some c')) H = some (ie.size, xs.take len) := by simp [aElems, hrow]
          have htl : (xs.take len).length = len := by simp; omega
          obtain ⟨k1, old, k2, k3⟩ := elems_ok (P := P) hR hs hel1 (.inr rfl) (by rw [htl]; rfl)
          rw [htl] at k2
          obtain ⟨inf, dd, z, q1, q2, q3, q4, q5, q6, q7⟩ := tinfo_ok hie
          have g3 := zeroRows (sn := sn) (ρ := ρ) (n := m) q6 hzl hone
          have hzs : z.cells.size = ie.size := by rw [← hzl, q6]; simp
          have hzc : Builtin.zeroCells z.cells m = (Array.range (m * ie.size)).map (z.cells[· % z.cells.size]!) := by rw [Builtin.zeroCells, hzs]
          rw [← hzc] at g3
          obtain ⟨d, g1, g2, _⟩ := run_under_ti ht w
          rw [hd] at g2
          cases d <;> simp [TD.of] at g2
          subst g2
          obtain ⟨d2, j1, j2, _⟩ := run_under_ti ht2 w
          rw [hd2] at j2
          cases d2 <;> simp [TD.of] at j2
          subst j2
          have hzero : ∀ w1, (zeroValue e).run P w1 = .ok z w1 := fun w1 => by simp [zeroValue, run_info q1, q3]
          have hm0 : m ≠ 0 := by omega
          have hw : IntKind.i64.wrap (m : Int) = m := by rw [IntKind.wrap_i64]; omega
          have hneg : ¬ ((m : Int) < 0) := by omega
          have h48i : ¬ (281474976710656 < (m : Int) * (inf.bytes : Int)) := by
            rw [q5, ← Int.natCast_mul]
            have : m * ie.bytes ≤ 68719476736 * 1024 := Nat.mul_le_mul (by omega) hby
            omega
          have hcap := nextcap_le (n := len + m) (c := c') hlt
          have h48 : ¬ (281474976710656 < Builtin.nextslicecap (len + m) c' * inf.bytes) := by
            rw [q5]
            have : Builtin.nextslicecap (len + m) c' * ie.bytes ≤ (2 * (len + m) + 192) * 1024 := Nat.mul_le_mul hcap hby
            omega
          have hnm' : ¬ (IntKind.i64.max < (len : Int) + (m : Int)) := by
            simp [IntKind.max, IntKind.signed, IntKind.bits]
            omega
          have hforced : (Question.appendCap (len + m) c' e).forced = false := rfl
          have hgt' : ¬ (len + m ≤ c') := by omega
          have hns : ¬ (m * ie.size = 0) := Nat.mul_ne_zero hm0 (by omega)
          obtain ⟨k, hk⟩ : ∃ k, (Question.appendCap (len + m) c' e).cut (w.tape w.drawn (Question.appendCap (len + m) c' e)) = len + m + k % (2 ^ 63 - (len + m)) := ⟨_, rfl⟩
          have hklt : k % (2 ^ 63 - (len + m)) < 2 ^ 63 - (len + m) := Nat.mod_lt _ (by omega)
          obtain ⟨cap, hcapd⟩ : ∃ cap, cap = len + m + k % (2 ^ 63 - (len + m)) := ⟨_, rfl⟩
          rw [← hcapd] at hk
          have ho2 := k2 w.drew rfl
          have hrun : (Builtin.append_ #[t, t2] ty #[.slice a len c', .int kk (m : Int)]).run P w = .ok (.slice (some ⟨w.heap.size, 0, none⟩) (len + m) cap) (w.drew.alloc (.cells (old ++ Builtin.zeroCells z.cells m ++ Builtin.zeroCells z.cells (cap - (len + m))) e)) := by
            unfold Builtin.append_
            simp [g1, j1, hgt', run_size_ti hie, run_info q1, asInt, asIntOf, hw, hneg, h48i, hm0, hns, h48, hnm', hforced, hk, ho2, hzero, newRow]
            intro h
            omega
          have hcell : (old ++ Builtin.zeroCells z.cells m ++ Builtin.zeroCells z.cells (cap - (len + m))).size = cap * ie.size := by
            have a1 := k3.1
            have a2 := g3.1
            rw [htl] at a1
            rw [List.length_replicate] at a2
            simp only [Array.size_append, zeroCells_size, hzs, a1]
            rw [← Nat.add_mul, ← Nat.add_mul]
            congr 1
            omega
          have hmono := envPut_mono (p := ⟨w.heap.size, ie.size, (old ++ Builtin.zeroCells z.cells m ++ Builtin.zeroCells z.cells (cap - (len + m))).size⟩) (hR.top _ (Nat.le_refl _))
          obtain ⟨r1, r2⟩ := hR.push (w' := w.drew.alloc (.cells (old ++ Builtin.zeroCells z.cells m ++ Builtin.zeroCells z.cells (cap - (len + m))) e)) (blk := .rows ie.size (xs.take len ++ List.replicate m ie.zero)) (sz := ie.size) (n := (old ++ Builtin.zeroCells z.cells m ++ Builtin.zeroCells z.cells (cap - (len + m))).size) rfl rfl rfl rfl trivial
            (((k3.append g3).mono (fun _ _ h => h) hmono).blk _ _)
          refine ⟨_, _, sn, _, .inl (by simp [asNext, hrun]; rfl), ?_, r1, r2⟩
          exact VR.sl _ _ _ _ cap none _ _ (envPut_same _ _ _) (fun _ => by simp) (by omega) (by simp only [maxLen]; omega) (by rw [hcell]; simp) (by simp)
        · trivial
      · trivial
    · trivial
  · trivial
theorem aAppendM_ok {P : Program} {sn : Snap} {ρ : Env} {H : Heap} {w : World} (hR : Rel sn ρ H w) {t t2 ty : TypeId} {s x : AV} {cs cx : Value} (hs : VR sn ρ s cs) (hx : VR sn ρ x cx) :
    (aAppendM P t t2 s x H).ok P ((asNext (Builtin.append_ #[t, t2] ty #[cs, cx])).run P w) sn ρ H w := by
  unfold aAppendM
  cases isI x with
  | true => exact aAppendZ_ok hR (norm0_ok hs) hx
  | false => exact aAppendN_ok hR hs hx
def aClearB (ie : TI) (b : Option Blk) (r off len : Nat) (H : Heap) : AR := match b with
  | some (.rows sz xs) => .chk (sz = ie.size ∧ off + len ≤ xs.length ∧ ie.zero.length = ie.size ∧ ie.zero.all AV.one = true) (.upd (H.set r (.rows ie.size (xs.take off ++ List.replicate len ie.zero ++ xs.drop (off + len)))) (.tuple []))
  | _ => .bad
def aClear (P : Program) (t : TypeId) (d : AV) (H : Heap) : AR := match tinfo P t with
  | some i => match i.desc, d with
    | .slice e, .sl r off len _ => match tinfo P e with
      | some ie => aClearB ie H[r]? r off len H
      | none => .bad
    | _, _ => .bad
  | none => .bad
theorem aClear_ok {P : Program} {sn : Snap} {ρ : Env} {H : Heap} {w : World} (hR : Rel sn ρ H w) {t ty : TypeId} {s : AV} {cs : Value} (hs : VR sn ρ s cs) :
    (aClear P t s H).ok P ((asNext (Builtin.clear_ #[t] ty #[cs])).run P w) sn ρ H w := by
  unfold aClear
  split
  · rename_i i ht
    obtain ⟨d, hd, hdd, hun⟩ := run_under_ti ht w
    split
    · rename_i e r off len cap he
      rw [hdd] at he
      cases d <;> simp [TD.of] at he
      subst he
      rename_i e
      split
      · rename_i ie hie
        unfold aClearB
        split
        · rename_i sz xs hrow
          rintro ⟨hsz, hfit, hzl, hone⟩
          subst hsz
          obtain ⟨inf, dd, z, q1, q2, q3, q4, q5, q6, q7⟩ := tinfo_ok hie
          have hzv : ∀ w1 : World, (zeroValue e).run P w1 = .ok z w1 := fun w1 => by simp [zeroValue, run_info q1, q3]
          have hzs : z.cells.size = ie.size := by rw [← hzl, q6]; simp
          have hzr := zeroRows (sn := sn) (ρ := ρ) (n := len) q6 hzl hone
          have hzc : Builtin.zeroCells z.cells len = (Array.range (len * ie.size)).map (z.cells[· % z.cells.size]!) := by rw [Builtin.zeroCells, hzs]
          rw [← hzc] at hzr
          obtain ⟨a, c, rfl, hlc, hmx, hcc, hcase⟩ := hs.sl_inv
          by_cases h0 : len = 0
          · subst h0
            have e3 : xs.take off ++ List.replicate 0 ie.zero ++ xs.drop (off + 0) = xs := by simp
            rw [e3, set_self hrow]
            refine ⟨.tuple #[], w, sn, ρ, .inl ?_, .tuple _ _ _ rfl (by simp), hR, .refl _ _ _ _⟩
            cases a <;> simp [asNext, Builtin.clear_, hd]
          · rcases hcase with rfl | ⟨p, hp, rfl, hpn⟩
            · omega
            · obtain ⟨cc, t', fr, h1, h2, h3, h4, h5, h6, h7, h8⟩ := hR.rows hrow hp
              obtain ⟨w', s1, r1, r2⟩ := rows_write (P := P) hR hrow hp (off := off) (by omega) hzr (by rw [List.length_replicate, ← h3]; exact Nat.le_trans (Nat.mul_le_mul_right _ (by omega)) hpn)
              rw [List.length_replicate] at r1 r2
              refine ⟨.tuple #[], w', sn, ρ, .inl ?_, .tuple _ _ _ rfl (by simp), r1, r2⟩
              obtain ⟨n, rfl⟩ : ∃ n, len = n + 1 := ⟨len - 1, by omega⟩
              simp [asNext, Builtin.clear_, hd, hzv, s1]
        · trivial
      · trivial
    · trivial
  · trivial
end Go.AM
set_option linter.unusedVariables false
set_option linter.unusedSimpArgs false
namespace Go.AM
inductive Out where
  | ret (v : AV)
  | pan (v : AV)
inductive AX where
  | normal | ret
  | exit (id : Nat)
  | pan (v : AV)
def OutR (sn : Snap) (ρ : Env) : Out → Ending → Prop
  | .ret x, .returned v => VR sn ρ x v
  | .pan x, .panicked [{ v, recovered := false, goexit := false }] => VR sn ρ x v
  | _, _ => False
def AXR (sn : Snap) (ρ : Env) : AX → Exit → Prop
  | .normal, .normal => True
  | .ret, .ret => True
  | .exit i, .exit j => i = j
  | .pan x, .panic [{ v, recovered := false, goexit := false }] => VR sn ρ x v
  | _, _ => False
abbrev CQ := Out → Heap → Prop
abbrev KQ := Ch → Heap → Prop
abbrev XQ := AX → Ch → Heap → Prop
def ACalls (P : Program) (f : FuncId) (args : List AV) (H : Heap) (Q : CQ) : Prop :=
  ∀ (sn : Snap) (ρ : Env) (w : World) (vs : Array Value), Rel sn ρ H w → VRs sn ρ args vs.toList →
    Calls P f vs w fun e w' => ∃ sn' ρ' H' out, OutR sn' ρ' out e ∧ Rel sn' ρ' H' w' ∧ Ext sn ρ H w sn' ρ' H' w' ∧ Q out H'
structure Fx where
  D : List Deferred
  B : Nat
  cuts : List Nat
structure ExtB (B : Nat) (sn : Snap) (ρ : Env) (H : Heap) (w : World) (sn' : Snap) (ρ' : Env) (H' : Heap) (w' : World) : Prop where
  env : ∀ r, r < B → ρ' r = ρ r
  len : B ≤ H'.length
  snap : ∀ b o, sn b = some o → sn' b = some o
  below : w.heap.size ≤ w'.heap.size
  os : w'.os = w.os
  tape : w'.tape = w.tape
  output : w'.output = w.output
  frame : ∀ b, b < w.heap.size → ¬ Owned ρ H b → w'.heap[b]? = w.heap[b]?
  newsnap : ∀ b, sn' b ≠ sn b → w.heap.size ≤ b ∨ Owned ρ H b
  newown : ∀ b, Owned ρ' H' b → w.heap.size ≤ b ∨ Owned ρ H b
theorem Ext.b {sn sn' : Snap} {ρ ρ' : Env} {H H' : Heap} {w w' : World} (h : Ext sn ρ H w sn' ρ' H' w') {B : Nat} (hB : B ≤ H.length) : ExtB B sn ρ H w sn' ρ' H' w' :=
  ⟨fun r hr => h.envlt r (by omega), Nat.le_trans hB h.len, h.snap, h.below, h.os, h.tape, h.output, h.frame, h.newsnap, h.newown⟩
theorem ExtB.trans {B : Nat} {sn sn1 sn2 : Snap} {ρ ρ1 ρ2 : Env} {H H1 H2 : Heap} {w w1 w2 : World} (a : ExtB B sn ρ H w sn1 ρ1 H1 w1) (b : ExtB B sn1 ρ1 H1 w1 sn2 ρ2 H2 w2) : ExtB B sn ρ H w sn2 ρ2 H2 w2 where
  env := fun r h => (b.env r h).trans (a.env r h)
  len := b.len
  snap := fun x o h => b.snap x o (a.snap x o h)
  below := Nat.le_trans a.below b.below
  os := b.os.trans a.os
  tape := b.tape.trans a.tape
  output := b.output.trans a.output
  frame := fun x hx ho => by
    have h1 : ¬ Owned ρ1 H1 x := fun h => by
      rcases a.newown x h with h | h
      · omega
      · exact ho h
    exact (b.frame x (Nat.lt_of_lt_of_le hx a.below) h1).trans (a.frame x hx ho)
  newsnap := fun x h => by
    by_cases h1 : sn1 x = sn x
    · rcases b.newsnap x (by rw [h1]; exact h) with h2 | h2
      · exact .inl (Nat.le_trans a.below h2)
      · exact a.newown x h2
    · exact a.newsnap x h1
  newown := fun x h => by
    rcases b.newown x h with h2 | h2
    · exact .inl (Nat.le_trans a.below h2)
    · exact a.newown x h2
theorem ExtB.refl {B : Nat} {sn : Snap} {ρ : Env} {H : Heap} {w : World} (hB : B ≤ H.length) : ExtB B sn ρ H w sn ρ H w := (Ext.refl sn ρ H w).b hB
def FR (ro : Option Nat) : Fence := { Fence.wide with round := ro }
def SWp (P : Program) (n : Nat) (D : Fx) (c : Code) (Q : XQ) (s : Ch) (H : Heap) : Prop :=
  ∀ (ro : Option Nat) (sn : Snap) (ρ : Env) (w : World) (a : Act), Rel sn ρ H w → SR sn ρ n s a.tmps → a.defers = D.D → D.B ≤ H.length →
    c.wpIn (FR ro) 0 P (fun e a' w' => ∃ sn' ρ' H' s' x, AXR sn' ρ' x e ∧ Rel sn' ρ' H' w' ∧ SR sn' ρ' n s' a'.tmps ∧ a'.defers = D.D ∧ ExtB D.B sn ρ H w sn' ρ' H' w' ∧ Q x s' H') a w
def SOps (P : Program) (n : Nat) (D : Fx) (ops : Array Oper) (l : List Nat) (Q : XQ) (s : Ch) (H : Heap) : Prop :=
  ∀ (sn : Snap) (ρ : Env) (w : World) (a : Act), Rel sn ρ H w → SR sn ρ n s a.tmps → a.defers = D.D → D.B ≤ H.length →
    wpOps P ops (fun e a' w' => ∃ sn' ρ' H' s' x, AXR sn' ρ' x e ∧ Rel sn' ρ' H' w' ∧ SR sn' ρ' n s' a'.tmps ∧ a'.defers = D.D ∧ ExtB D.B sn ρ H w sn' ρ' H' w' ∧ Q x s' H') l a w
theorem ACalls.mono {P : Program} {f : FuncId} {args : List AV} {H : Heap} {Q Q' : CQ} (h : ACalls P f args H Q) (hq : ∀ o H', Q o H' → Q' o H') : ACalls P f args H Q' :=
  fun sn ρ w vs hR hv => (h sn ρ w vs hR hv).mono fun e w' ⟨sn', ρ', H', out, h1, h2, h3, h4⟩ => ⟨sn', ρ', H', out, h1, h2, h3, hq _ _ h4⟩
def evs (s : Ch) (xs : Array Operand) : List AV := xs.toList.map (cev s)
def evParts (s : Ch) (ps : Array (Nat × Operand)) : List (Nat × AV) := ps.toList.map fun p => (p.1, cev s p.2)
def ovl : List Nat := []
def memO (g : Nat) : List Nat → Bool
  | [] => false
  | c :: cs => if g = c then true else memO g cs
def OvlOk (P : Program) (g : FuncId) : Prop := ∃ fn t tr e size, P.funcs[g]? = some fn ∧ (fn.name == "runtime.NumGoroutine") = false ∧ fn.body.isNone = true ∧ Extern.findNext fn = none ∧
  Extern.find fn = some (Extern.SlicesOverlaps.overlaps #[t, t] #[tr]) ∧ P.underlying t = some (.slice e) ∧ ∀ w, (Go.sizeOf e).run P w = .ok size w
def aOvlB (b1 b2 : Option Blk) (r1 r2 : Nat) : AR := match b1, b2 with
  | some (.rows _ _), some (.rows s2 _) => .chk (r1 ≠ r2 ∧ 0 < s2) (.val (.bool false))
  | _, _ => .bad
def aOvl (args : List AV) (H : Heap) : AR := match args with
  | [.sl r1 _ _ _, .sl r2 _ _ _] => aOvlB H[r1]? H[r2]? r1 r2
  | _ => .bad
def aCallG (b : Bool) (P : Program) (g : FuncId) (args : List AV) (H : Heap) : AR := match b with
  | true => .chk (OvlOk P g) (aOvl args H)
  | false => .call g args
def aCallV (f : AV) (args : List AV) : AR := match f with
  | .func (.func g) first cap => .call g (first ++ args ++ cap)
  | _ => .bad
def aCallO (P : Program) (s : Ch) (f : Operand) (args : List AV) (H : Heap) : AR := match f with
  | .func g => aCallG (memO g ovl) P g args H
  | .tmp t => aCallV (s.get t) args
  | _ => .bad
theorem run_overlaps_zero {P : Program} (w : World) (tS tR e : TypeId) (ht : P.underlying tS = some (.slice e)) (size : Nat) (hz : ∀ w, (Go.sizeOf e).run P w = .ok size w)
    (a b : Option Addr) (la ca lb cb : Nat) (h0 : la = 0 ∨ lb = 0) : (Extern.SlicesOverlaps.overlaps #[tS, tS] #[tR] #[.slice a la ca, .slice b lb cb]).run P w = .ok (.bool false) w := by
  have h1 : la = 0 ∨ lb = 0 ∨ size = 0 := by rcases h0 with h | h <;> simp [h]
  change Sem.run P (α := Value) (do
    let some t := (#[tS, tS] : Array TypeId)[0]? | stuck "slices.overlaps: no parameter types"
    let .slice elem ← underlying t | stuck "slices.overlaps: slice type expected"
    let size ← sizeOf elem
    match a, b with
    | some a, some b =>
      if la = 0 ∨ lb = 0 ∨ size = 0 then pure (Value.bool false)
      else if a.block != b.block && (← frozen a) && (← frozen b) then unsupported .addressObserved
      else do
        if a.block != b.block then do
          noView a; noView b
          if ← mayBeOne a b then return Value.bool ((← choose (.extern "sameAddr.stringBytes" 2)) == 1)
        pure (Value.bool (a.block == b.block && a.off < b.off + lb * size && b.off < a.off + la * size))
    | _, _ => pure (Value.bool false)) w = _
  cases a <;> cases b <;> simp [run_underlying ht, hz, h1]
theorem aOvl_ok {P : Program} {sn : Snap} {ρ : Env} {H : Heap} {w : World} (hR : Rel sn ρ H w) {g : FuncId} {args : List AV} {vs : Array Value} (hv : VRs sn ρ args vs.toList) (hg : OvlOk P g) :
    (aOvl args H).ok P ((callFunc g vs).run P w) sn ρ H w := by
  obtain ⟨fn, t, tr, e, size, f1, f2, f3, f4, f5, f6, f7⟩ := hg
  unfold aOvl
  split
  · rename_i r1 o1 l1 c1 r2 o2 l2 c2
    unfold aOvlB
    split
    · rename_i s1 x1 s2 x2 hb1 hb2
      rintro ⟨hne, hpos⟩
      obtain ⟨l⟩ := vs
      obtain ⟨hl, hvs⟩ := hv
      match l, hl, hvs with
      | [u, v], _, hvs =>
        have hu := hvs 0 _ u rfl rfl
        have hv := hvs 1 _ v rfl rfl
        refine ⟨.bool false, ?_, .bool _ _⟩
        obtain ⟨a1, k1, rfl, g1, _, _, q1⟩ := hu.sl_inv
        obtain ⟨a2, k2, rfl, g2, _, _, q2⟩ := hv.sl_inv
        rw [run_callFunc_extern f1 f2 f3 f4 f5]
        by_cases h0 : l1 = 0 ∨ l2 = 0
        · rw [run_overlaps_zero w t tr e f6 size f7 a1 a2 l1 k1 l2 k2 h0]; rfl
        · have z1 : k1 ≠ 0 := by omega
          have z2 : k2 ≠ 0 := by omega
          replace q1 := q1.resolve_left z1
          replace q2 := q2.resolve_left z2
          obtain ⟨p1, hp1, rfl, n1⟩ := q1
          obtain ⟨p2, hp2, rfl, n2⟩ := q2
          obtain ⟨cc1, t1, fr1, i1, i2, i3, i4, i5, i6, i7, i8⟩ := hR.rows hb1 hp1
          obtain ⟨cc2, t2, fr2, j1, j2, j3, j4, j5, j6, j7, j8⟩ := hR.rows hb2 hp2
          have hbb : p1.b ≠ p2.b := fun h => hne (hR.inj r1 r2 _ _ p1 p2 hb1 trivial hb2 trivial hp1 hp2 h)
          have hk2 : cc2.size ≠ 0 := by
            have : 1 * p2.sz ≤ (o2 + k2) * p2.sz := Nat.mul_le_mul_right _ (by omega)
            omega
          have e1 : o1 * p1.sz ≤ cc1.size := by
            have : o1 * p1.sz ≤ (o1 + k1) * p1.sz := Nat.mul_le_mul_right _ (by omega)
            omega
          have fz : ∀ k, k ≤ cc1.size → w.frozen? ⟨p1.b, k, none⟩ = false := fun k hk => by
            have := i8 k hk
            simp [World.frozen?, i1]
            omega
          rw [Lib.run_overlaps_apart w t tr e f6 size f7 ⟨p1.b, o1 * p1.sz, none⟩ ⟨p2.b, o2 * p2.sz, none⟩ l1 k1 l2 k2 hbb t1 t2 cc1.size cc2.size (by simp [World.shape?, i1]) (by simp [World.shape?, j1]) hk2 (fz _ e1) (fz _ (Nat.le_refl _))]
          rfl
    · trivial
  · trivial
def aPanIf (x : AV) : AR := match x with
  | .iface u v => .pan (.iface u v)
  | _ => .bad
def aLenA (P : Program) (ts : List TypeId) (args : List AV) : AR := match ts, args with
  | [t], [x] => aLen P t x
  | _, _ => .bad
def aCapA (P : Program) (ts : List TypeId) (args : List AV) : AR := match ts, args with
  | [t], [x] => aCap P t x
  | _, _ => .bad
def aAppendA (P : Program) (ts : List TypeId) (args : List AV) (H : Heap) : AR := match ts, args with
  | [t, t2], [s, x] => aAppendM P t t2 s x H
  | _, _ => .bad
def aCopyA (P : Program) (ts : List TypeId) (args : List AV) (H : Heap) : AR := match ts, args with
  | [t, _], [s, x] => aCopyS P t s x H
  | _, _ => .bad
def aClearA (P : Program) (ts : List TypeId) (args : List AV) (H : Heap) : AR := match ts, args with
  | [t], [s] => aClear P t s H
  | _, _ => .bad
def aPanA (args : List AV) : AR := match args with
  | [x] => aPanIf x
  | _ => .bad
def aBuiltin (P : Program) (b : Builtin) (ts : List TypeId) (args : List AV) (H : Heap) : AR := match b with
  | .len => aLenA P ts args
  | .cap => aCapA P ts args
  | .append => aAppendA P ts args H
  | .copy => aCopyA P ts args H
  | .clear => aClearA P ts args H
  | .panic => aPanA args
  | .max => aMax args
  | .min => aMin args
  | _ => .bad
def aop (P : Program) (s : Ch) (H : Heap) : Op → AR
  | .move x | .assign x => .val (cev s x)
  | .pick c a b => aPick (cev s c) (cev s a) (cev s b)
  | .alloc t => aAlloc P t
  | .box _ x => aBox (cev s x).cells
  | .build t ps => aBuild P t (evParts s ps)
  | .buildSlice t len ps => aBuildSlice P t len (evParts s ps)
  | .load t x => aLoad P t (cev s x) H
  | .store t x v => aStore P t (cev s x) (cev s v) H
  | .nilCheck x => aNilCheck (cev s x)
  | .binOp op t x y _ => aBinO P op t y (cev s x) (cev s y)
  | .unOp op _ x => aUn op (cev s x)
  | .convert src dst x => aConv P src dst (cev s x)
  | .sliceToArrayPointer t x => aArrPtr P t (cev s x)
  | .insert t m k x => aMapUpd P t (cev s m) (cev s k) (cev s x) H
  | .makeInterface t x => aMakeIface P t (cev s x)
  | .makeFunc fn first cap => .val (.func fn (evs s first) (evs s cap))
  | .makeSlice t l c => aMakeSlice P t (cev s l) (cev s c)
  | .slice t x lo hi mx => aSlice P t (cev s x) H (lo.map (cev s)) (hi.map (cev s)) (mx.map (cev s))
  | .fieldAddr t x f => aFieldAddr P t (cev s x) f
  | .field t x f => aField P t (cev s x) f
  | .indexAddr t x k => aIndexAddr P t (cev s x) (cev s k) H
  | .index t x k => aIndexV P t (cev s x) (cev s k)
  | .typeAssert x _ t ok => aAssert P (cev s x) t ok
  | .extract x k => aExtract (cev s x) k
  | .call c => match c.callee with
    | .value f => aCallO P s f (evs s c.args) H
    | .builtin b => aBuiltin P b c.argTypes.toList (evs s c.args) H
    | .invoke _ _ => .bad
  | .panic x => aPanIf (cev s x)
  | .lookup t x k ok => aLookup P t (cev s x) (cev s k) ok H
  | .mapUpdate t x k v => aMapUpd P t (cev s x) (cev s k) (cev s v) H
  | .makeMap _ r => aMakeMap (r.map (cev s))
  | _ => .bad
theorem VR.func_inv {sn : Snap} {ρ : Env} {fn : Fn} {xs ys : List AV} {v : Value} (h : VR sn ρ (.func fn xs ys) v) : ∃ us vs, v = .func fn us vs ∧ VRs sn ρ xs us.toList ∧ VRs sn ρ ys vs.toList := by
  cases h with
  | func _ _ _ _ us vs hu hv h1 h2 => exact ⟨us, vs, rfl, ⟨by simpa using hu, fun k x y hx hy => h1 k x y hx (by simpa using hy)⟩, ⟨by simpa using hv, fun k x y hx hy => h2 k x y hx (by simpa using hy)⟩⟩
theorem aPanIf_ok {P : Program} {sn : Snap} {ρ : Env} {H : Heap} {w : World} {x : AV} {cx : Value} (hx : VR sn ρ x cx) : (aPanIf x).ok P ((asNext (Instr.panic cx)).run P w) sn ρ H w := by
  unfold aPanIf
  split
  · cases hx
    rename_i cv hcv
    exact ⟨.iface _ cv, by simp [asNext, Instr.panic], .iface _ _ _ _ hcv⟩
  · trivial
theorem evs_one {s : Ch} {args : Array Operand} {x : AV} (h : evs s args = [x]) : ∃ o, args = #[o] ∧ x = cev s o := by
  obtain ⟨l⟩ := args
  simp only [evs] at h
  cases l with
  | nil => simp at h
  | cons o l => cases l with
    | nil => simp at h; exact ⟨o, rfl, h.symm⟩
    | cons => simp at h
theorem evs_two {s : Ch} {args : Array Operand} {x y : AV} (h : evs s args = [x, y]) : ∃ o q, args = #[o, q] ∧ x = cev s o ∧ y = cev s q := by
  obtain ⟨l⟩ := args
  simp only [evs] at h
  match l, h with
  | [o, q], h => simp at h; exact ⟨o, q, rfl, h.1.symm, h.2.symm⟩
theorem arr_of {α : Type} {a : Array α} {l : List α} (h : a.toList = l) : a = l.toArray := by rw [← h]
theorem evs_ok {sn : Snap} {ρ : Env} {n : Nat} {s : Ch} {a : Act} (hg : GlOk sn) (h : SR sn ρ n s a.tmps) (xs : Array Operand) : VRs sn ρ (evs s xs) (xs.map a.eval).toList := by
  refine ⟨by simp [evs], fun k x y hx hy => ?_⟩
  simp only [evs, List.getElem?_map, Option.map_eq_some_iff] at hx
  obtain ⟨o, ho, rfl⟩ := hx
  simp only [Array.toList_map, List.getElem?_map, ho, Option.map_some, Option.some.injEq] at hy
  subst hy
  exact cev_ok hg h o
theorem evParts_ok {sn : Snap} {ρ : Env} {n : Nat} {s : Ch} {a : Act} (hg : GlOk sn) (h : SR sn ρ n s a.tmps) (ps : Array (Nat × Operand)) : PartsR sn ρ (evParts s ps) (ps.map fun (i, x) => (i, a.eval x)).toList := by
  refine ⟨by simp [evParts], fun k x y hx hy => ?_⟩
  simp only [evParts, List.getElem?_map, Option.map_eq_some_iff] at hx
  obtain ⟨o, ho, rfl⟩ := hx
  simp only [Array.toList_map, List.getElem?_map, ho, Option.map_some, Option.some.injEq] at hy
  subst hy
  exact ⟨rfl, cev_ok hg h o.2⟩
theorem optR_ok {sn : Snap} {ρ : Env} {n : Nat} {s : Ch} {a : Act} (hg : GlOk sn) (h : SR sn ρ n s a.tmps) (x : Option Operand) : OptR sn ρ (x.map (cev s)) (x.map a.eval) := by
  cases x with
  | none => trivial
  | some x => exact cev_ok hg h x
theorem VRs.append {sn : Snap} {ρ : Env} {a b : List AV} {c d : List Value} (h : VRs sn ρ a c) (k : VRs sn ρ b d) : VRs sn ρ (a ++ b) (c ++ d) := by
  refine ⟨by simp [h.1, k.1], fun m x y hx hy => ?_⟩
  rw [List.getElem?_append] at hx hy
  rw [h.1] at hy
  split at hx
  · rename_i hlt; rw [if_pos hlt] at hy; exact h.2 m x y hx hy
  · rename_i hlt; rw [if_neg hlt] at hy; exact k.2 _ x y hx hy
def Enters (P : Program) (f : FuncId) : Prop := ∀ (vs : Array Value) (w : World), (callFunc f vs).run P w = .ok (.enter f vs) w
theorem enters_of {P : Program} {f : FuncId} {fn : Func} {c : Code} (hf : P.funcs[f]? = some fn) (hb : fn.body = some c) (hn : fn.name ≠ "runtime.NumGoroutine") : Enters P f := by
  intro vs w
  simp [callFunc, hf, hn, hb]
def AR.enters (P : Program) : AR → Prop
  | .call f _ => Enters P f
  | .chk p r => p → r.enters P
  | _ => True
theorem aop_ok {P : Program} {sn : Snap} {ρ : Env} {n : Nat} {H : Heap} {w : World} {s : Ch} {a : Act} (hR : Rel sn ρ H w) (hs : SR sn ρ n s a.tmps) (o : Oper) (hE : (aop P s H o.op).enters P) :
    (aop P s H o.op).ok P ((execOp a.eval o).run P w) sn ρ H w := by
  obtain ⟨dst, op, type, pos, after, guard⟩ := o
  simp only at hE ⊢
  cases op <;> simp only [aop] at hE ⊢ <;> try trivial
  case move x => exact ⟨_, rfl, cev_ok hR.gl hs x⟩
  case assign x => exact ⟨_, rfl, cev_ok hR.gl hs x⟩
  case pick c x y => exact aPick_ok (cev_ok hR.gl hs c) (cev_ok hR.gl hs x) (cev_ok hR.gl hs y)
  case alloc t => exact aAlloc_ok hR t _
  case box t x => exact aBox_ok hR t (cev_ok hR.gl hs x)
  case build t ps => exact aBuild_ok (evParts_ok hR.gl hs ps)
  case buildSlice t len ps => exact aBuildSlice_ok hR (evParts_ok hR.gl hs ps)
  case load t x => exact aLoad_ok hR (cev_ok hR.gl hs x)
  case store t x v => exact aStore_ok hR (cev_ok hR.gl hs x) (cev_ok hR.gl hs v)
  case nilCheck x => exact aNilCheck_ok (cev_ok hR.gl hs x)
  case binOp op t x y u => exact aBinO_ok hR.gl hs op t x y
  case unOp op t x => exact aUn_ok op (cev_ok hR.gl hs x)
  case convert src dst x => exact aConv_ok hR (cev_ok hR.gl hs x)
  case sliceToArrayPointer t x => exact aArrPtr_ok (cev_ok hR.gl hs x)
  case insert t m k x => exact aMapUpd_ok hR (cev_ok hR.gl hs m) (cev_ok hR.gl hs k) (cev_ok hR.gl hs x)
  case makeInterface t x => exact aMakeIface_ok (cev_ok hR.gl hs x)
  case makeFunc fn first cap =>
    have h1 := evs_ok hR.gl hs first
    have h2 := evs_ok hR.gl hs cap
    exact ⟨_, rfl, .func _ _ _ _ _ _ (by simpa using h1.1) (by simpa using h2.1) (fun k x y hx hy => h1.2 k x y hx (by simpa using hy)) (fun k x y hx hy => h2.2 k x y hx (by simpa using hy))⟩
  case makeSlice t l c => exact aMakeSlice_ok hR (cev_ok hR.gl hs l) (cev_ok hR.gl hs c)
  case slice t x lo hi mx => exact aSlice_ok hR (cev_ok hR.gl hs x) (optR_ok hR.gl hs lo) (optR_ok hR.gl hs hi) (optR_ok hR.gl hs mx)
  case fieldAddr t x f => exact aFieldAddr_ok (cev_ok hR.gl hs x)
  case field t x f => exact aField_ok (cev_ok hR.gl hs x)
  case indexAddr t x k => exact aIndexAddr_ok hR (cev_ok hR.gl hs x) (cev_ok hR.gl hs k)
  case index t x k => exact aIndexV_ok (cev_ok hR.gl hs x) (cev_ok hR.gl hs k)
  case typeAssert x xt t ok => exact aAssert_ok (cev_ok hR.gl hs x) ok
  case extract x k => exact aExtract_ok (cev_ok hR.gl hs x) k
  case panic x => exact aPanIf_ok (cev_ok hR.gl hs x)
  case lookup t x k ok => exact aLookup_ok hR (cev_ok hR.gl hs x) (cev_ok hR.gl hs k) ok
  case mapUpdate t x k v => exact aMapUpd_ok hR (cev_ok hR.gl hs x) (cev_ok hR.gl hs k) (cev_ok hR.gl hs v)
  case makeMap t r => exact aMakeMap_ok (by cases r <;> rfl)
  case call c =>
    obtain ⟨callee, args, argTypes⟩ := c
    have hargs := evs_ok hR.gl hs args
    cases callee with
    | invoke r m => trivial
    | value f =>
      simp only at hE ⊢
      have hf := cev_ok hR.gl hs f
      cases f with
      | const v => trivial
      | global g => trivial
      | func g =>
        simp only [aCallO] at hE ⊢
        have hrun : (execOp a.eval ⟨dst, .call ⟨.value (.func g), args, argTypes⟩, type, pos, after, guard⟩).run P w = (callFunc g (args.map a.eval)).run P w := by
          simp [execOp, resolve, Act.eval, Deferred.ofValue, invoke]
        rw [hrun]
        cases hb : memO g ovl with
        | true => exact fun hg => aOvl_ok hR hargs hg
        | false =>
          rw [hb] at hE
          have hE' : Enters P g := hE
          exact ⟨args.map a.eval, hE' _ _, hargs⟩
      | tmp t =>
        simp only [aCallO, cev] at hE hf ⊢
        unfold aCallV at hE ⊢
        generalize s.get t = af at hf hE
        generalize hcf : a.eval (.tmp t) = cf at hf
        split
        · rename_i g first cap
          obtain ⟨us, vs, rfl, e1, e2⟩ := hf.func_inv
          have hE' : Enters P g := hE
          refine ⟨us ++ args.map a.eval ++ vs, ?_, ?_⟩
          · simp [execOp, resolve, hcf, Deferred.ofValue, invoke, hE' _ _]
          · have := (e1.append hargs).append e2
            simpa using this
        · trivial
    | builtin b =>
      simp only at hE ⊢
      cases b <;> simp only [aBuiltin] <;> try trivial
      case len =>
        unfold aLenA
        split
        · rename_i t x ht he
          obtain ⟨o, rfl, rfl⟩ := evs_one he
          have := arr_of ht
          subst this
          have := aLen_ok (P := P) (H := H) (w := w) (t := t) (u := type) (cev_ok hR.gl hs o)
          simpa [execOp, resolve, invoke, builtin] using this
        · trivial
      case cap =>
        unfold aCapA
        split
        · rename_i t x ht he
          obtain ⟨o, rfl, rfl⟩ := evs_one he
          have := arr_of ht
          subst this
          have := aCap_ok (P := P) (H := H) (w := w) (t := t) (u := type) (cev_ok hR.gl hs o)
          simpa [execOp, resolve, invoke, builtin] using this
        · trivial
      case append =>
        unfold aAppendA
        split
        · rename_i t t2 x y ht he
          obtain ⟨o, q, rfl, rfl, rfl⟩ := evs_two he
          have := arr_of ht
          subst this
          have := aAppendM_ok (P := P) hR (t := t) (t2 := t2) (ty := type) (cev_ok hR.gl hs o) (cev_ok hR.gl hs q)
          simpa [execOp, resolve, invoke, builtin] using this
        · trivial
      case copy =>
        unfold aCopyA
        split
        · rename_i t t2 x y ht he
          obtain ⟨o, q, rfl, rfl, rfl⟩ := evs_two he
          have := arr_of ht
          subst this
          have := aCopyS_ok (P := P) hR (t := t) (t2 := t2) (ty := type) (cev_ok hR.gl hs o) (cev_ok hR.gl hs q)
          simpa [execOp, resolve, invoke, builtin] using this
        · trivial
      case clear =>
        unfold aClearA
        split
        · rename_i t x ht he
          obtain ⟨o, rfl, rfl⟩ := evs_one he
          have := arr_of ht
          subst this
          have := aClear_ok (P := P) hR (t := t) (ty := type) (cev_ok hR.gl hs o)
          simpa [execOp, resolve, invoke, builtin] using this
        · trivial
      case max => simpa [execOp, resolve, invoke, builtin] using aMax_ok (P := P) (H := H) (w := w) (ts := argTypes) (t := type) hargs
      case min => simpa [execOp, resolve, invoke, builtin] using aMin_ok (P := P) (H := H) (w := w) (ts := argTypes) (t := type) hargs
      case panic =>
        unfold aPanA
        split
        · rename_i x he
          obtain ⟨o, rfl, rfl⟩ := evs_one he
          have := aPanIf_ok (P := P) (H := H) (w := w) (cev_ok hR.gl hs o)
          simpa [execOp, resolve, invoke, builtin] using this
        · trivial
def Ch.put? (s : Ch) (d : Option Tmp) (v : AV) : Ch := match d with
  | some d => s.put d v
  | none => s
def AR.k (P : Program) (r : AR) (H : Heap) (K : AV → Heap → Prop) (X : AV → Heap → Prop) : Prop := match r with
  | .bad => False
  | .val v => K v H
  | .chk p r => p ∧ r.k P H K X
  | .ndb p => ∀ b, p b → K (.bool b) H
  | .alloc b v => K (v H.length) (H ++ [b])
  | .upd H' v => K v H'
  | .call f args => Enters P f ∧ ACalls P f args H (fun o H' => match o with | .ret v => K v H' | .pan v => X v H')
  | .pan v => X v H
def noDef (o : Oper) : Bool := match o.op with
  | .defer _ => false
  | _ => true
def dstOk (n : Nat) (o : Oper) : Bool := match o.dst with
  | some d => decide (d < n)
  | none => true
theorem AR.enters_of_k {P : Program} {H : Heap} {K X : AV → Heap → Prop} : ∀ {r : AR}, r.k P H K X → r.enters P
  | .bad, h => trivial
  | .val v, h => trivial
  | .chk p r, h => fun _ => AR.enters_of_k h.2
  | .ndb p, h => trivial
  | .alloc b v, h => trivial
  | .upd H' v, h => trivial
  | .call f args, h => h.1
  | .pan v, h => trivial
end Go.AM
set_option linter.unusedVariables false
set_option linter.unusedSimpArgs false
namespace Go.AM
theorem SR.put? {sn : Snap} {ρ : Env} {n : Nat} {s : Ch} {a : Act} (h : SR sn ρ n s a.tmps) {o : Oper} (hd : dstOk n o = true) {x : AV} {v : Value} (hv : VR sn ρ x v) : SR sn ρ n (s.put? o.dst x) (a.put o.dst v).tmps := by
  unfold dstOk at hd
  cases ho : o.dst with
  | none => simpa [Ch.put?, Act.put, ho] using h
  | some d => simp only [ho, decide_eq_true_eq] at hd; exact h.put hd hv
theorem put_defers (a : Act) (d : Option Tmp) (v : Value) : (a.put d v).defers = a.defers := by cases d <;> rfl
theorem OutR.ret_inv {sn : Snap} {ρ : Env} {out : Out} {v : Value} (h : OutR sn ρ out (.returned v)) : ∃ x, out = .ret x ∧ VR sn ρ x v := by
  cases out with
  | ret x => exact ⟨x, rfl, h⟩
  | pan x => exact h.elim
theorem OutR.pan_inv {sn : Snap} {ρ : Env} {out : Out} {ch : List PanicEntry} (h : OutR sn ρ out (.panicked ch)) : ∃ x v, out = .pan x ∧ ch = [{ v, recovered := false }] ∧ VR sn ρ x v := by
  cases out with
  | ret x => exact h.elim
  | pan x =>
    unfold OutR at h
    split at h
    · rename_i h1 h2; cases h1
    · rename_i y v h1 h2
      cases h1
      cases h2
      exact ⟨_, v, rfl, rfl, h⟩
    · exact h.elim
theorem upon_ok {P : Program} {sn : Snap} {ρ : Env} {H : Heap} {w : World} {o : Oper} {a : Act} {next : Act → World → Prop} {Q : Exit → Act → World → Prop} {K X : AV → Heap → Prop} {run : Result Next} (hR : Rel sn ρ H w)
    (hnext : ∀ sn' ρ' H' w' v cv, Rel sn' ρ' H' w' → Ext sn ρ H w sn' ρ' H' w' → VR sn' ρ' v cv → K v H' → next (a.put o.dst cv) w')
    (hpan : ∀ sn' ρ' H' w' v cv, Rel sn' ρ' H' w' → Ext sn ρ H w sn' ρ' H' w' → VR sn' ρ' v cv → X v H' → Q (.panic [{ v := cv, recovered := false }]) a w') :
    ∀ (r : AR), r.ok P run sn ρ H w → r.k P H K X → o.upon P a next Q run := by
  intro r
  induction r with
  | bad => intro _ h; exact h.elim
  | val v =>
    rintro ⟨cv, rfl, hv⟩ hk
    exact hnext sn ρ H w v cv hR (.refl _ _ _ _) hv hk
  | chk p r ih => intro h hk; exact ih (h hk.1) hk.2
  | ndb p =>
    rintro ⟨b, rfl, hb⟩ hk
    exact hnext sn ρ H w _ _ hR (.refl _ _ _ _) (.bool _ _) (hk b hb)
  | alloc b v =>
    rintro ⟨obj, cv, w', sz, n, rfl, h1, h2, h3, h4, h5, h6, h7⟩ hk
    obtain ⟨q1, q2⟩ := hR.push h1 h2 h3 h4 h5 h6
    exact hnext _ _ _ _ _ _ q1 q2 h7 hk
  | upd H' v =>
    rintro ⟨cv, w', sn', ρ', hrun, hv, q1, q2⟩ hk
    rcases hrun with rfl | ⟨rfl, rfl⟩
    · exact hnext _ _ _ _ _ _ q1 q2 hv hk
    · exact hnext _ _ _ _ _ _ q1 q2 hv hk
  | call f args =>
    rintro ⟨vs, rfl, hv⟩ ⟨_, hk⟩
    refine (hk sn ρ w vs hR hv).mono ?_
    rintro e w' ⟨sn', ρ', H', out, h1, h2, h3, h4⟩
    cases e with
    | returned v =>
      obtain ⟨x, rfl, hx⟩ := h1.ret_inv
      exact hnext _ _ _ _ _ _ h2 h3 hx h4
    | panicked ch =>
      obtain ⟨x, v, rfl, rfl, hx⟩ := h1.pan_inv
      exact hpan _ _ _ _ _ _ h2 h3 hx h4
    | outgrown => cases out <;> exact h1.elim
  | pan v =>
    rintro ⟨cv, rfl, hv⟩ hk
    exact hpan sn ρ H w v cv hR (.refl _ _ _ _) hv hk
theorem LetsOut.mono {Q Q' : Exit → Act → World → Prop} (hq : ∀ e a w, Q e a w → Q' e a w) (h : LetsOut Q) : LetsOut Q' := let ⟨a, w, h⟩ := h; ⟨a, w, hq _ _ _ h⟩
theorem upon_mono {P : Program} {o : Oper} {a : Act} {K K' : Act → World → Prop} {Q Q' : Exit → Act → World → Prop} (hk : ∀ a w, K a w → K' a w) (hq : ∀ e a w, Q e a w → Q' e a w) {r : Result Next} (h : o.upon P a K Q r) : o.upon P a K' Q' r := by
  cases r with
  | ok n w' =>
    cases n <;> simp only [Oper.upon] at h ⊢ <;> first
      | exact h.elim
      | exact hk _ _ h
      | exact h.mono (fun e w'' he => by cases e <;> first | exact hk _ _ he | exact hq _ _ _ he | exact LetsOut.mono hq he)
      | exact Rows.mono h (fun _ _ he => hk _ _ he)
  | halt x w' => cases x <;> simp only [Oper.upon] at h ⊢ <;> exact hq _ _ _ h
theorem wpOps_mono {P : Program} {ops : Array Oper} {Q Q' : Exit → Act → World → Prop} (hq : ∀ e a w, Q e a w → Q' e a w) : ∀ (l : List Nat) (a : Act) (w : World), wpOps P ops Q l a w → wpOps P ops Q' l a w := by
  intro l
  induction l with
  | nil => intro a w h; exact hq _ _ _ h
  | cons i rest ih =>
    intro a w h
    simp only [wpOps] at h ⊢
    split
    · rename_i ho
      simp only [ho] at h
      exact ih _ _ h
    · rename_i o ho
      simp only [ho] at h
      split
      · rename_i hw
        simp only [hw, if_true] at h
        rcases h with h | h
        · exact .inl (upon_mono ih hq h)
        · exact .inr ⟨h.1, LetsOut.mono hq h.2⟩
      · rename_i hw
        simp only [hw] at h
        exact ih _ _ h
def gval (ops : Array Oper) (s : Ch) (j : Nat) : AV := match (ops[j]?).bind (·.dst) with
  | some d => s.get d
  | none => .any
def gk (v : AV) (want : Bool) (A B : Prop) : Prop := match v with
  | .bool b => if b = want then A else B
  | .tuple [] => B
  | _ => False
theorem VR.bool_inv {sn : Snap} {ρ : Env} {b : Bool} {v : Value} (h : VR sn ρ (.bool b) v) : v = .bool b := by cases h; rfl
theorem undef_ok (sn : Snap) (ρ : Env) : VR sn ρ (.tuple []) undef := .tuple _ _ _ rfl (by simp)
theorem gval_undef {sn : Snap} {ρ : Env} {n : Nat} {s : Ch} {tmps : Array Value} (h : SR sn ρ n s tmps) {ops : Array Oper} {j : Nat} (hg : gval ops s j = .tuple []) : yielded ops tmps j = none := by
  unfold gval at hg
  unfold yielded
  cases hd : (ops[j]?).bind (·.dst) with
  | none => simp
  | some d =>
    simp only [hd] at hg
    have h1 := h.get d
    rw [hg] at h1
    by_cases hlt : d < tmps.size
    · have h3 : tmps.getD d undef = tmps[d] := by simp [hlt]
      rw [h3] at h1
      have h4 : tmps[d]? = some tmps[d] := Array.getElem?_eq_getElem hlt
      simp only [Option.bind_some, h4]
      generalize tmps[d] = v at h1
      cases h1
      rfl
    · simp [Array.getElem?_eq_none (Nat.le_of_not_lt hlt)]
theorem gval_ok {sn : Snap} {ρ : Env} {n : Nat} {s : Ch} {tmps : Array Value} (h : SR sn ρ n s tmps) {ops : Array Oper} {j : Nat} {b : Bool} (hg : gval ops s j = .bool b) : yielded ops tmps j = some b := by
  unfold gval at hg
  unfold yielded
  cases hd : (ops[j]?).bind (·.dst) with
  | none => simp [hd] at hg
  | some d =>
    simp only [hd] at hg
    have h1 := h.get d
    rw [hg] at h1
    have h2 := h1.bool_inv
    by_cases hlt : d < tmps.size
    · have : tmps[d]? = some (.bool b) := by
        rw [Array.getElem?_eq_getElem hlt]
        simp [hlt] at h2
        rw [h2]
      simp [this]
    · rw [Array.getD_eq_getD_getElem?, Array.getElem?_eq_none (Nat.le_of_not_lt hlt)] at h2
      simp [undef] at h2
def cops (P : Program) (ops : Array Oper) : List Oper → XQ → Ch → Heap → Prop
  | [], Q, s, H => Q .normal s H
  | o :: rest, Q, s, H => match o.guard with
    | none => (aop P s H o.op).k P H (fun v H' => cops P ops rest Q (s.put? o.dst v) H') (fun v H' => Q (.pan v) s H')
    | some (j, want) => gk (gval ops s j) want ((aop P s H o.op).k P H (fun v H' => cops P ops rest Q (s.put? o.dst v) H') (fun v H' => Q (.pan v) s H')) (cops P ops rest Q (s.put? o.dst (.tuple [])) H)
theorem cops_sound {P : Program} {n : Nat} {D : Fx} {ops : Array Oper} {Q : XQ} (hd : ops.all (dstOk n) = true) : ∀ (m k : Nat) (s : Ch) (H : Heap), k + m = ops.size → cops P ops (ops.toList.drop k) Q s H → SOps P n D ops (List.range' k m) Q s H := by
  intro m
  induction m with
  | zero =>
    intro k s H hk h sn ρ w a hR hs hdf hB
    have : ops.toList.drop k = [] := by simp; omega
    rw [this] at h
    exact ⟨sn, ρ, H, s, .normal, trivial, hR, hs, hdf, .refl hB, h⟩
  | succ m ih =>
    intro k s H hk h sn ρ w a hR hs hdf hB
    have hlt : k < ops.size := by omega
    have hcons : ops.toList.drop k = ops[k] :: ops.toList.drop (k + 1) := by
      rw [List.drop_eq_getElem_cons (by simpa using hlt)]; simp
    rw [hcons] at h
    have hok : ops[k]? = some ops[k] := Array.getElem?_eq_getElem hlt
    have hdk : dstOk n ops[k] = true := by
      rw [Array.all_eq_true] at hd
      exact hd k hlt
    have hrest : ∀ s' H', cops P ops (ops.toList.drop (k + 1)) Q s' H' → SOps P n D ops (List.range' (k + 1) m) Q s' H' := fun s' H' h' => ih (k + 1) s' H' (by omega) h'
    have run : (aop P s H ops[k].op).k P H (fun v H' => cops P ops (ops.toList.drop (k + 1)) Q (s.put? ops[k].dst v) H') (fun v H' => Q (.pan v) s H') →
        Oper.wp P ops[k] a w (wpOps P ops (fun e a' w' => ∃ sn' ρ' H' s' x, AXR sn' ρ' x e ∧ Rel sn' ρ' H' w' ∧ SR sn' ρ' n s' a'.tmps ∧ a'.defers = D.D ∧ ExtB D.B sn ρ H w sn' ρ' H' w' ∧ Q x s' H') (List.range' (k + 1) m))
          (fun e a' w' => ∃ sn' ρ' H' s' x, AXR sn' ρ' x e ∧ Rel sn' ρ' H' w' ∧ SR sn' ρ' n s' a'.tmps ∧ a'.defers = D.D ∧ ExtB D.B sn ρ H w sn' ρ' H' w' ∧ Q x s' H') := by
      intro hk'
      refine upon_ok hR ?_ ?_ _ (aop_ok hR hs ops[k] (AR.enters_of_k hk')) hk'
      · intro sn' ρ' H' w' v cv q1 q2 hv hc
        have := hrest _ _ hc sn' ρ' w' (a.put ops[k].dst cv) q1 ((hs.mono q2.snap q2.env).put? hdk hv) (by rw [put_defers]; exact hdf) (Nat.le_trans hB q2.len)
        exact wpOps_mono (fun e a'' w'' ⟨sn2, ρ2, H2, s2, x, g1, g2, g3, g4, g5, g6⟩ => ⟨sn2, ρ2, H2, s2, x, g1, g2, g3, g4, (q2.b hB).trans g5, g6⟩) _ _ _ this
      · intro sn' ρ' H' w' v cv q1 q2 hv hc
        exact ⟨sn', ρ', H', s, .pan v, hv, q1, hs.mono q2.snap q2.env, hdf, q2.b hB, hc⟩
    rw [List.range'_succ]
    simp only [wpOps, hok]
    simp only [cops] at h
    split at h
    · rename_i hg
      have hw : Region.wanted ops[k] (yielded ops a.tmps) = true := by simp [Region.wanted, hg]
      rw [if_pos hw]
      exact .inl (run h)
    · rename_i j want hg
      unfold gk at h
      split at h
      · rename_i b hb
        have hy := gval_ok hs hb
        split at h
        · rename_i hbw
          have hw : Region.wanted ops[k] (yielded ops a.tmps) = true := by simp [Region.wanted, hg, hy, hbw]
          rw [if_pos hw]
          exact .inl (run h)
        · rename_i hbw
          have hw : ¬ Region.wanted ops[k] (yielded ops a.tmps) = true := by simp [Region.wanted, hg, hy, hbw]
          rw [if_neg hw]
          exact hrest _ _ h sn ρ w (a.put ops[k].dst undef) hR (hs.put? hdk (undef_ok _ _)) (by rw [put_defers]; exact hdf) hB
      · rename_i hb
        have hw : ¬ Region.wanted ops[k] (yielded ops a.tmps) = true := by simp [Region.wanted, hg, gval_undef hs hb]
        rw [if_neg hw]
        exact hrest _ _ h sn ρ w (a.put ops[k].dst undef) hR (hs.put? hdk (undef_ok _ _)) (by rw [put_defers]; exact hdf) hB
      · exact h.elim
def thenX (K : KQ) (Q : XQ) : XQ := fun x => match x with
  | .normal => K
  | x => Q x
def blockX (id : Nat) (Q : XQ) : XQ := fun x => match x with
  | .exit j => if j = id then Q .normal else Q (.exit j)
  | x => Q x
def rounds (body : XQ → Ch → Heap → Prop) (Q : XQ) : Nat → KQ
  | 0 => fun _ _ => False
  | k + 1 => body (thenX (rounds body Q k) Q)
def condK (v : AV) (A B : Prop) : Prop := match v with
  | .bool b => (b = true → A) ∧ (b = false → B)
  | _ => False
def memN (i : Nat) : List Nat → Bool
  | [] => false
  | c :: cs => if i = c then true else memN i cs
def cutR (cs : List Nat) : Code → Bool
  | .seq a _ => cutR cs a
  | .block _ a => cutR cs a
  | .loop a => cutR cs a
  | .region id _ _ => memN id cs
  | _ => false
def cutIn (y : Code) : List Nat → Bool
  | [] => false
  | c :: cs => cutR (c :: cs) y
def cwp (P : Program) (n : Nat) (D : Fx) : Code → XQ → Ch → Heap → Prop
  | .skip, Q => Q .normal
  | .label _, Q => Q .normal
  | .ret, Q => Q .ret
  | .exit id, Q => Q (.exit id)
  | .region id ops false, Q => fun s H => cops P ops ops.toList Q s H
  | .region id ops true, Q => fun s H => SWp P n D (.region id ops true) Q s H
  | .seq a b, Q => fun s H => if cutIn b D.cuts = true then ∃ K : KQ, cwp P n D a (thenX K Q) s H ∧ ∀ s' H', K s' H' → SWp P n D b Q s' H' else cwp P n D a (thenX (cwp P n D b Q) Q) s H
  | .cond c x y, Q => fun s H => condK (cev s c) (cwp P n D x Q s H) (cwp P n D y Q s H)
  | .block id c, Q => cwp P n D c (blockX id Q)
  | .loop c, Q => fun s H => ∃ k, rounds (SWp P n D c) Q k s H
  | _, _ => fun _ _ => False
def codeOk (n : Nat) : Code → Bool
  | .region _ ops _ => ops.all (dstOk n) && ops.all noDef
  | .seq a b => codeOk n a && codeOk n b
  | .cond _ a b => codeOk n a && codeOk n b
  | .block _ c => codeOk n c
  | .loop c => codeOk n c
  | _ => true
theorem notOut {n : Nat} {D : Fx} {Q : XQ} {sn : Snap} {ρ : Env} {H : Heap} {w : World} : ¬ LetsOut (fun (e : Exit) (a' : Act) (w' : World) => ∃ sn' ρ' H' s' x, AXR sn' ρ' x e ∧ Rel sn' ρ' H' w' ∧ SR sn' ρ' n s' a'.tmps ∧ a'.defers = D.D ∧ ExtB D.B sn ρ H w sn' ρ' H' w' ∧ Q x s' H') := by
  rintro ⟨a, w, sn', ρ', H', s', x, h, _⟩
  cases x <;> exact h
theorem FR_room {ro : Option Nat} : (FR ro).depth.isSome = true → 1 ≤ 0 := fun h => by simp [FR, Fence.wide] at h
theorem uponIn_of {P : Program} {ro : Option Nat} {o : Oper} {a : Act} {K : Act → World → Prop} {Q : Exit → Act → World → Prop} (_ : ¬ LetsOut Q) {r : Result Next} (h : o.upon P a K Q r) : o.uponIn (FR ro) 0 P a K Q r := by
  cases r with
  | ok x w' =>
    cases x with
    | value v => exact h
    | skip => exact h
    | defer d => exact h
    | enter f args => exact ⟨FR_room, callsIn_wide.2 h⟩
    | row r args =>
      refine ⟨FR_room, fun c cs _ => ?_⟩
      obtain ⟨v, w2, h1, h2⟩ := h c cs
      exact ⟨v, w2, h1, stepsIn_wide.2 h2⟩
    | _ => exact h.elim
  | halt x w' => cases x <;> first | exact h | exact h.elim
theorem opIn_of {P : Program} {ro : Option Nat} {o : Oper} {a : Act} {w : World} {K : Act → World → Prop} {Q : Exit → Act → World → Prop} (hQ : ¬ LetsOut Q) (ho : noDef o = true) (h : o.wp P a w K Q) : o.wpIn (FR ro) 0 P a w K Q := by
  refine ⟨fun _ _ => trivial, ?_⟩
  rw [Oper.semAt_eq _ _ _ (fun c hc => by rw [noDef, hc] at ho; cases ho)]
  exact uponIn_of hQ h
theorem wpOps_in {P : Program} {ro : Option Nat} {ops : Array Oper} {Q : Exit → Act → World → Prop} (hd : ops.all noDef = true) (hQ : ¬ LetsOut Q) : ∀ (l : List Nat) (a : Act) (w : World), wpOps P ops Q l a w → wpOpsIn (FR ro) 0 P ops Q l a w
  | [], a, w, h => h
  | i :: l, a, w, h => by
    have ih := wpOps_in (P := P) (ro := ro) hd hQ l
    simp only [wpOps, wpOpsIn] at h ⊢
    split
    · rename_i h0; simp only [h0] at h; exact ih _ _ h
    · rename_i o h0
      simp only [h0] at h
      have ho : noDef o = true := by
        rw [Array.all_eq_true] at hd
        obtain ⟨h1, h2⟩ := Array.getElem?_eq_some_iff.1 h0
        exact h2 ▸ hd i h1
      split
      · rename_i hw
        rw [if_pos hw] at h
        rcases h with h | h
        · exact Oper.wpIn_mono ih (opIn_of hQ ho h)
        · exact absurd h.2 hQ
      · rename_i hw
        rw [if_neg hw] at h
        exact ⟨fun _ _ => trivial, ih _ _ h⟩
theorem wpAny_in {P : Program} {ro : Option Nat} {ops : Array Oper} {md : Region.Mode} {Q : Exit → Act → World → Prop} (hd : ops.all noDef = true) (hQ : ¬ LetsOut Q) : ∀ (fuel : Nat) (listed : Array Bool) (a : Act) (w : World), wpAny P md ops Q fuel listed a w → wpAnyIn (FR ro) 0 P md ops Q fuel listed a w
  | 0, listed, a, w, h => h
  | fuel + 1, listed, a, w, h => by
    have ih := fun l => wpAny_in (P := P) (ro := ro) (md := md) hd hQ fuel l
    refine ⟨h.1, fun i hi => ?_⟩
    have h := h.2 i hi
    unfold wpOp at h
    unfold wpOpIn
    split
    · rename_i h0; simp only [h0] at h; exact ih _ _ _ h
    · rename_i o h0
      simp only [h0] at h
      have ho : noDef o = true := by
        rw [Array.all_eq_true] at hd
        obtain ⟨h1, h2⟩ := Array.getElem?_eq_some_iff.1 h0
        exact h2 ▸ hd i h1
      split
      · rename_i hw
        rw [if_pos hw] at h
        rcases h with h | h
        · exact Oper.wpIn_mono (ih _) (opIn_of hQ ho h)
        · exact absurd h.2 hQ
      · rename_i hw
        rw [if_neg hw] at h
        exact ⟨fun _ _ => trivial, ih _ _ _ h⟩
theorem SWp.mono {P : Program} {n : Nat} {D : Fx} {c : Code} {Q Q' : XQ} {s : Ch} {H : Heap} (h : SWp P n D c Q s H) (hq : ∀ x s H, Q x s H → Q' x s H) : SWp P n D c Q' s H :=
  fun ro sn ρ w a hR hs hd hB => wpIn_mono (h ro sn ρ w a hR hs hd hB) fun e a' w' ⟨sn', ρ', H', s', x, h1, h2, h3, h4, h5, h6⟩ => ⟨sn', ρ', H', s', x, h1, h2, h3, h4, h5, hq _ _ _ h6⟩
theorem AXR.normal {sn : Snap} {ρ : Env} {x : AX} (h : AXR sn ρ x .normal) : x = .normal := by
  cases x <;> simp [AXR] at h
  rfl
theorem SWp.seq {P : Program} {n : Nat} {D : Fx} {x y : Code} {Q : XQ} {s : Ch} {H : Heap} {K : KQ} (h : SWp P n D x (thenX K Q) s H) (hk : ∀ s H, K s H → SWp P n D y Q s H) : SWp P n D (.seq x y) Q s H := by
  intro ro sn ρ w a hR hs hd hB
  refine wpIn_seq (wpIn_mono (h ro sn ρ w a hR hs hd hB) ?_)
  rintro e a' w' ⟨sn', ρ', H', s', ax, h1, h2, h3, h4, h5, h6⟩
  cases e with
  | normal =>
    have := h1.normal
    subst this
    exact wpIn_mono (hk _ _ h6 ro sn' ρ' w' a' h2 h3 h4 h5.len) fun e a'' w'' ⟨sn2, ρ2, H2, s2, x2, g1, g2, g3, g4, g5, g6⟩ => ⟨sn2, ρ2, H2, s2, x2, g1, g2, g3, g4, h5.trans g5, g6⟩
  | _ => exact ⟨sn', ρ', H', s', ax, h1, h2, h3, h4, h5, by cases ax <;> first | exact h6 | simp [AXR] at h1⟩
theorem SWp.block {P : Program} {n : Nat} {D : Fx} {id : Nat} {c : Code} {Q : XQ} {s : Ch} {H : Heap} (h : SWp P n D c (blockX id Q) s H) : SWp P n D (.block id c) Q s H := by
  intro ro sn ρ w a hR hs hd hB
  refine wpIn_block (wpIn_mono (h ro sn ρ w a hR hs hd hB) ?_)
  rintro e a' w' ⟨sn', ρ', H', s', ax, h1, h2, h3, h4, h5, h6⟩
  cases e with
  | exit j =>
    cases ax <;> simp [AXR] at h1
    subst h1
    simp only [Exit.inBlock]
    simp only [blockX] at h6
    split
    · rename_i e
      rw [if_pos e] at h6
      exact ⟨sn', ρ', H', s', .normal, trivial, h2, h3, h4, h5, h6⟩
    · rename_i e
      rw [if_neg e] at h6
      exact ⟨sn', ρ', H', s', .exit _, rfl, h2, h3, h4, h5, h6⟩
  | _ => exact ⟨sn', ρ', H', s', ax, h1, h2, h3, h4, h5, by cases ax <;> first | exact h6 | simp [AXR] at h1⟩
theorem SWp.loop {P : Program} {n : Nat} {D : Fx} {c : Code} {Q : XQ} {k : Nat} {s : Ch} {H : Heap} (h : rounds (SWp P n D c) Q k s H) : SWp P n D (.loop c) Q s H := by
  intro ro sn ρ w a hR hs hd hB
  refine wpIn_loop_rounds k ?_
  have key : ∀ (k : Nat) (s1 : Ch) (H1 : Heap) (sn1 : Snap) (ρ1 : Env) (w1 : World) (a1 : Act), rounds (SWp P n D c) Q k s1 H1 → Rel sn1 ρ1 H1 w1 → SR sn1 ρ1 n s1 a1.tmps → a1.defers = D.D → ExtB D.B sn ρ H w sn1 ρ1 H1 w1 →
      Code.roundsIn (FR ro) 0 P c (fun e a' w' => ∃ sn' ρ' H' s' x, AXR sn' ρ' x e ∧ Rel sn' ρ' H' w' ∧ SR sn' ρ' n s' a'.tmps ∧ a'.defers = D.D ∧ ExtB D.B sn ρ H w sn' ρ' H' w' ∧ Q x s' H') k a1 w1 := by
    intro k
    induction k with
    | zero => intro _ _ _ _ _ _ h; exact h.elim
    | succ k ih =>
      intro s1 H1 sn1 ρ1 w1 a1 h hR1 hs1 hd1 hE
      rw [roundsIn_succ]
      refine wpIn_mono (h ro sn1 ρ1 w1 a1 hR1 hs1 hd1 hE.len) ?_
      rintro e a' w' ⟨sn', ρ', H', s', ax, h1, h2, h3, h4, h5, h6⟩
      cases e with
      | normal =>
        have := h1.normal
        subst this
        exact ih s' H' sn' ρ' w' a' h6 h2 h3 h4 (hE.trans h5)
      | _ => exact ⟨sn', ρ', H', s', ax, h1, h2, h3, h4, hE.trans h5, by cases ax <;> first | exact h6 | simp [AXR] at h1⟩
  exact key k s H sn ρ w a h hR hs hd (.refl hB)
theorem cwp_sound {P : Program} {n : Nat} {D : Fx} : ∀ (c : Code), codeOk n c = true → ∀ (Q : XQ) (s : Ch) (H : Heap), cwp P n D c Q s H → SWp P n D c Q s H := by
  intro c
  induction c with
  | skip => intro _ Q s H h ro sn ρ w a hR hs hd hB; exact wpIn_skip ⟨sn, ρ, H, s, .normal, trivial, hR, hs, hd, .refl hB, h⟩
  | label l => intro _ Q s H h ro sn ρ w a hR hs hd hB; exact wpIn_label ⟨sn, ρ, H, s, .normal, trivial, hR, hs, hd, .refl hB, h⟩
  | ret => intro _ Q s H h ro sn ρ w a hR hs hd hB; exact wpIn_ret ⟨sn, ρ, H, s, .ret, trivial, hR, hs, hd, .refl hB, h⟩
  | exit id => intro _ Q s H h ro sn ρ w a hR hs hd hB; exact wpIn_exit ⟨sn, ρ, H, s, .exit id, rfl, hR, hs, hd, .refl hB, h⟩
  | region id ops draw =>
    intro hok Q s H h
    cases draw with
    | true => exact h
    | false =>
      intro ro sn ρ w a hR hs hd hB
      simp only [codeOk, Bool.and_eq_true] at hok
      have := cops_sound (D := D) hok.1 ops.size 0 s H (by omega) (by simpa [cwp] using h) sn ρ w a hR hs hd hB
      exact wpIn_region (by rw [List.range_eq_range']; exact wpOps_in hok.2 notOut _ _ _ this)
  | seq x y ihx ihy =>
    intro hok Q s H h
    simp only [codeOk, Bool.and_eq_true] at hok
    simp only [cwp] at h
    split at h
    · obtain ⟨K, h1, h2⟩ := h
      exact SWp.seq (ihx hok.1 _ _ _ h1) h2
    · exact SWp.seq (ihx hok.1 _ _ _ h) (fun s H hk => ihy hok.2 _ _ _ hk)
  | cond c x y ihx ihy =>
    intro hok Q s H h ro sn ρ w a hR hs hd hB
    simp only [codeOk, Bool.and_eq_true] at hok
    simp only [cwp, condK] at h
    split at h
    · rename_i b hb
      have := cev_ok hR.gl hs c
      rw [hb] at this
      refine wpIn_cond_split this.bool_inv (fun e => ?_) (fun e => ?_)
      · exact ihx hok.1 _ _ _ (h.1 e) ro sn ρ w a hR hs hd hB
      · exact ihy hok.2 _ _ _ (h.2 e) ro sn ρ w a hR hs hd hB
    · exact h.elim
  | block id c ih => intro hok Q s H h; exact SWp.block (ih hok _ _ _ h)
  | loop c ih =>
    intro hok Q s H h
    obtain ⟨k, hk⟩ := h
    exact SWp.loop hk
  | _ => intro _ Q s H h; exact h.elim
theorem SWp.plain {P : Program} {n : Nat} {D : Fx} {c : Code} {Q : XQ} {s : Ch} {H : Heap} (h : SWp P n D c Q s H) (sn : Snap) (ρ : Env) (w : World) (a : Act) (hR : Rel sn ρ H w) (hs : SR sn ρ n s a.tmps) (hd : a.defers = D.D) (hB : D.B ≤ H.length) :
    c.wp P (fun e a' w' => ∃ sn' ρ' H' s' x, AXR sn' ρ' x e ∧ Rel sn' ρ' H' w' ∧ SR sn' ρ' n s' a'.tmps ∧ a'.defers = D.D ∧ ExtB D.B sn ρ H w sn' ρ' H' w' ∧ Q x s' H') a w := wpIn_wide.1 (h none sn ρ w a hR hs hd hB)
def aResult (P : Program) (s : Ch) (H : Heap) : ResultVar → Option AV
  | .tmp t => some (s.get t)
  | .cell a t => match aLoad P t (s.get a) H with
    | .val v => some v
    | _ => none
def aResults (P : Program) (s : Ch) (H : Heap) : List ResultVar → Option (List AV)
  | [] => some []
  | r :: rs => match aResult P s H r, aResults P s H rs with
    | some v, some vs => some (v :: vs)
    | _, _ => none
def packRes (vs : Option (List AV)) (K : AV → Prop) : Prop := match vs with
  | some [v] => K v
  | some vs => K (.tuple vs)
  | none => False
def bodyX (P : Program) (rs : List ResultVar) (Q : CQ) : XQ := fun x s H => match x with
  | .normal | .ret => packRes (aResults P s H rs) (fun v => Q (.ret v) H)
  | .pan v => Q (.pan v) H
  | .exit _ => False
def rvSem (tmps : Array Value) : ResultVar → Sem Value
  | .tmp t => pure (tmps.getD t undef)
  | .cell a t => do loadVar t (← asAddr (tmps.getD a undef))
theorem results_eq (fn : Func) (tmps : Array Value) : results fn tmps = (do
    let vs ← fn.results.mapM (rvSem tmps)
    pure (if h : vs.size = 1 then vs[0] else .tuple vs)) := by
  unfold results
  congr 1
theorem aResults_ok {P : Program} {sn : Snap} {ρ : Env} {n : Nat} {s : Ch} {tmps : Array Value} {H : Heap} {w : World} (hR : Rel sn ρ H w) (hs : SR sn ρ n s tmps) : ∀ (rs : List ResultVar) (vs : List AV), aResults P s H rs = some vs →
    ∃ cvs, (rs.mapM (rvSem tmps)).run P w = .ok cvs w ∧ VRs sn ρ vs cvs := by
  intro rs
  induction rs with
  | nil =>
    intro vs h
    simp only [aResults, Option.some.injEq] at h
    subst h
    exact ⟨[], rfl, rfl, fun k x y hx => by simp at hx⟩
  | cons r rs ih =>
    intro vs h
    simp only [aResults] at h
    split at h
    · rename_i v vs' h1 h2
      injection h with h
      subst h
      obtain ⟨cvs, g1, g2⟩ := ih vs' h2
      have key : ∃ cv, (rvSem tmps r).run P w = .ok cv w ∧ VR sn ρ v cv := by
        cases r with
        | tmp t =>
          simp only [aResult, Option.some.injEq] at h1
          subst h1
          exact ⟨_, rfl, hs.get t⟩
        | cell a t =>
          simp only [aResult] at h1
          split at h1
          · rename_i u hu
            injection h1 with h1
            subst h1
            have := aLoad_ok (P := P) hR (t := t) (hs.get a)
            rw [hu] at this
            obtain ⟨cv, e1, e2⟩ := this
            refine ⟨cv, ?_, e2⟩
            cases hc : tmps.getD a undef with
            | pointer ad =>
              rw [hc] at e1
              cases ad with
              | none => simp [asNext, Instr.loadAt, Instr.sureAddr] at e1
              | some ad =>
                simp only [asNext, Instr.loadAt, Instr.sureAddr, pure_bind] at e1
                simp only [rvSem, hc, asAddr, pure_bind]
                simp only [Sem.run_bind] at e1
                cases hl : (loadVar t ad).run P w with
                | ok x w' => rw [hl] at e1; simp at e1; obtain ⟨rfl, rfl⟩ := e1; rfl
                | halt x w' => rw [hl] at e1; simp at e1
            | _ => rw [hc] at e1; simp [asNext, Instr.loadAt, Instr.sureAddr] at e1
          · cases h1
      obtain ⟨cv, e1, e2⟩ := key
      refine ⟨cv :: cvs, by simp only [List.mapM_cons, Sem.run_bind, e1, Result.andThen_ok, g1, Sem.run_pure], by simp [g2.1], fun k x y hx hy => ?_⟩
      cases k with
      | zero => simp at hx hy; subst hx hy; exact e2
      | succ k => exact g2.2 k x y (by simpa using hx) (by simpa using hy)
    · cases h
theorem packRes_ok {P : Program} {sn : Snap} {ρ : Env} {n : Nat} {s : Ch} {tmps : Array Value} {H : Heap} {w : World} (hR : Rel sn ρ H w) (hs : SR sn ρ n s tmps) (fn : Func) {K : AV → Prop} (h : packRes (aResults P s H fn.results.toList) K) :
    ∃ v cv, (results fn tmps).run P w = .ok cv w ∧ VR sn ρ v cv ∧ K v := by
  cases hvs : aResults P s H fn.results.toList with
  | none => rw [hvs] at h; exact h.elim
  | some vs =>
    rw [hvs] at h
    obtain ⟨cvs, g1, g2⟩ := aResults_ok hR hs _ _ hvs
    have hm : (fn.results.mapM (rvSem tmps)).run P w = .ok cvs.toArray w := by
      rw [Array.mapM_eq_mapM_toList]
      simp only [Sem.run_map, g1, Result.andThen_ok]
    match vs, cvs, g2, h with
    | [v], [cv], g2, h => exact ⟨v, cv, by rw [results_eq]; simp [hm], g2.2 0 _ _ rfl rfl, h⟩
    | [], [], g2, h => exact ⟨.tuple [], .tuple #[], by rw [results_eq]; simp [hm], .tuple _ _ _ rfl (by simp), h⟩
    | v1 :: v2 :: vs, c1 :: c2 :: cvs, g2, h =>
      refine ⟨.tuple (v1 :: v2 :: vs), .tuple (c1 :: c2 :: cvs).toArray, ?_, .tuple _ _ _ (by simpa using g2.1) (fun k x y hx hy => g2.2 k x y hx (by simpa using hy)), h⟩
      rw [results_eq]
      simp only [Sem.run_bind, hm, Result.andThen_ok, Sem.run_pure]
      rw [dif_neg (by simp)]
    | [], _ :: _, g2, h => exact absurd g2.1 (by simp)
    | [_], [], g2, h => exact absurd g2.1 (by simp)
    | [_], _ :: _ :: _, g2, h => exact absurd g2.1 (by simp)
    | _ :: _ :: _, [], g2, h => exact absurd g2.1 (by simp)
    | _ :: _ :: _, [_], g2, h => exact absurd g2.1 (by simp)
def argsCh : List AV → Nat → Ch → Ch
  | [], _, s => s
  | x :: xs, k, s => argsCh xs (k + 1) (s.put k x)
theorem argsCh_get : ∀ (xs : List AV) (k : Nat) (s : Ch) (t : Nat), (argsCh xs k s).get t = if k ≤ t ∧ t < k + xs.length then (xs[t - k]?).getD .any else s.get t := by
  intro xs
  induction xs with
  | nil => intro k s t; simp only [argsCh, List.length_nil]; rw [if_neg (by omega)]
  | cons x xs ih =>
    intro k s t
    simp only [argsCh, ih, List.length_cons]
    by_cases e : t = k
    · subst e
      rw [if_neg (by omega), if_pos (by omega)]
      simp [Ch.get]
    · by_cases e2 : k ≤ t ∧ t < k + (xs.length + 1)
      · rw [if_pos (by omega), if_pos e2]
        obtain ⟨m, hm⟩ : ∃ m, t - k = m + 1 := ⟨t - k - 1, by omega⟩
        rw [hm, List.getElem?_cons_succ]
        congr 2
        omega
      · rw [if_neg (by omega), if_neg e2]
        simp [Ch.get, e]
theorem ACalls.intro {P : Program} {cs : List Nat} {f : FuncId} {fn : Func} {c : Code} {rs : List ResultVar} {n : Nat} {args : List AV} {H : Heap} {Q : CQ} (hf : P.funcs[f]? = some fn) (hb : fn.body = some c) (hrs : fn.results = rs.toArray) (hnt : Nat.beq fn.ntmps n = true) (hok : codeOk n c = true) (hn : Nat.ble args.length n = true)
    (h : cwp P n ⟨[], H.length, cs⟩ c (bodyX P rs Q) (argsCh args 0 .nil) H) : ACalls P f args H Q := by
  have hnt := Nat.eq_of_beq_eq_true hnt
  subst hnt
  have hrs : fn.results.toList = rs := by rw [hrs]
  subst hrs
  have hn := Nat.le_of_ble_eq_true hn
  intro sn ρ w vs hR hv
  refine calls_of_wp hf hb ?_
  have hlen : vs.size = args.length := by have := hv.1; simpa using this
  have hs : SR sn ρ fn.ntmps (argsCh args 0 .nil) (vs ++ Array.replicate (fn.ntmps - vs.size) undef) := by
    refine ⟨by simp; omega, fun t => ?_⟩
    rw [argsCh_get]
    split
    · rename_i hlt
      have hlt' : t < vs.size := by omega
      have e1 : (vs ++ Array.replicate (fn.ntmps - vs.size) undef).getD t undef = vs[t] := by
        rw [Array.getD_eq_getD_getElem?, Array.getElem?_append, if_pos hlt', Array.getElem?_eq_getElem hlt']; rfl
      rw [e1]
      have hlt2 : t < args.length := by omega
      simp only [Nat.sub_zero, List.getElem?_eq_getElem hlt2, Option.getD_some]
      exact hv.2 t _ _ (List.getElem?_eq_getElem hlt2) (by simp [hlt'])
    · exact .any _ _
  refine wp_mono ((cwp_sound c hok _ _ _ h).plain sn ρ w _ hR hs rfl (Nat.le_refl _)) ?_
  rintro e a' w' ⟨sn', ρ', H', s', x, h1, h2, h3, h4, h5', h6⟩
  have h5 : Ext sn ρ H w sn' ρ' H' w' := ⟨fun r p hp => by
    have hr : r < H.length := by
      rcases Nat.lt_or_ge r H.length with h | h
      · exact h
      · rw [hR.top r h] at hp; cases hp
    rw [h5'.env r hr]; exact hp, h5'.env, h5'.len, h5'.snap, h5'.below, h5'.os, h5'.tape, h5'.output, h5'.frame, h5'.newsnap, h5'.newown⟩
  cases x with
  | normal =>
    cases e <;> simp [AXR] at h1
    obtain ⟨v, cv, g1, g2, g3⟩ := packRes_ok h2 h3 fn h6
    exact ⟨h4, cv, g1, sn', ρ', H', .ret v, g2, h2, h5, g3⟩
  | ret =>
    cases e <;> simp [AXR] at h1
    obtain ⟨v, cv, g1, g2, g3⟩ := packRes_ok h2 h3 fn h6
    exact ⟨h4, cv, g1, sn', ρ', H', .ret v, g2, h2, h5, g3⟩
  | exit id => exact h6.elim
  | pan v =>
    unfold AXR at h1
    split at h1 <;> try (first | exact h1.elim | (rename_i h0 _; cases h0; done) | (rename_i h0; cases h0; done))
    rename_i y cv hy
    cases hy
    exact ⟨h4, sn', ρ', H', .pan _, h1, h2, h5, h6⟩
end Go.AM
set_option linter.unusedVariables false
set_option linter.unusedSimpArgs false
namespace Go.AM
def rK (P : Program) (ops : Array Oper) (r : AR) (d : Option Tmp) (rest : List Oper) (Q : XQ) (s : Ch) (H : Heap) : Prop :=
  r.k P H (fun v H' => cops P ops rest Q (s.put? d v) H') (fun v H' => Q (.pan v) s H')
def gD (P : Program) (ops : Array Oper) (v : AV) (want : Bool) (op : Op) (d : Option Tmp) (rest : List Oper) (Q : XQ) (s : Ch) (H : Heap) : Prop :=
  gk v want (rK P ops (aop P s H op) d rest Q s H) (cops P ops rest Q (s.put? d (.tuple [])) H)
section
variable {P : Program} {ops : Array Oper} {d : Option Tmp} {dd : Tmp} {op : Op} {ty : TypeId} {pos : String} {af : Array Edge} {rest : List Oper} {Q : XQ} {s : Ch} {H H' : Heap} {j : Nat} {want : Bool} {v : AV} {b : Blk} {n : Nat} {D : Fx}
theorem c_nil : cops P ops [] Q s H = Q .normal s H := id rfl
theorem c_none : cops P ops (⟨d, op, ty, pos, af, none⟩ :: rest) Q s H = rK P ops (aop P s H op) d rest Q s H := id rfl
theorem c_some : cops P ops (⟨d, op, ty, pos, af, some (j, want)⟩ :: rest) Q s H = gD P ops (gval ops s j) want op d rest Q s H := id rfl
theorem gD_same {b : Bool} : gD P ops (.bool b) b op d rest Q s H = rK P ops (aop P s H op) d rest Q s H := by simp [gD, gk]
theorem gD_tf : gD P ops (.bool true) false op (some dd) rest Q s H = cops P ops rest Q (s.put dd (.tuple [])) H := by simp [gD, gk, Ch.put?]
theorem gD_ft : gD P ops (.bool false) true op (some dd) rest Q s H = cops P ops rest Q (s.put dd (.tuple [])) H := by simp [gD, gk, Ch.put?]
theorem gD_tfn : gD P ops (.bool true) false op none rest Q s H = cops P ops rest Q s H := by simp [gD, gk, Ch.put?]
theorem gD_ftn : gD P ops (.bool false) true op none rest Q s H = cops P ops rest Q s H := by simp [gD, gk, Ch.put?]
theorem gD_un : gD P ops (.tuple []) want op (some dd) rest Q s H = cops P ops rest Q (s.put dd (.tuple [])) H := by simp [gD, gk, Ch.put?]
theorem gD_unn : gD P ops (.tuple []) want op none rest Q s H = cops P ops rest Q s H := by simp [gD, gk, Ch.put?]
theorem rK_val : rK P ops (.val v) (some dd) rest Q s H = cops P ops rest Q (s.put dd v) H := id rfl
theorem rK_valn : rK P ops (.val v) none rest Q s H = cops P ops rest Q s H := id rfl
theorem rK_chkT {r : AR} : rK P ops (.chk True r) d rest Q s H = rK P ops r d rest Q s H := by simp [rK, AR.k]
theorem rK_ndb {p : Bool → Prop} : rK P ops (.ndb p) (some dd) rest Q s H = ∀ b, p b → cops P ops rest Q (s.put dd (.bool b)) H := id rfl
def hK (P : Program) (ops : Array Oper) (rest : List Oper) (Q : XQ) (s : Ch) (H : Heap) : Prop := cops P ops rest Q s H
theorem hK_cons : hK P ops rest Q s (b :: H) = cops P ops rest Q s (b :: H) := id rfl
def aK (P : Program) (ops : Array Oper) (v : AV) (d : Option Tmp) (rest : List Oper) (Q : XQ) (s : Ch) (H : Heap) : Prop := hK P ops rest Q (s.put? d v) H
theorem aK_ptr {r i j : Nat} : aK P ops (.ptr r i j) (some dd) rest Q s H = hK P ops rest Q (s.put dd (.ptr r i j)) H := id rfl
theorem aK_sl {r i j : Nat} {c : Option Nat} : aK P ops (.sl r i j c) (some dd) rest Q s H = hK P ops rest Q (s.put dd (.sl r i j c)) H := id rfl
theorem aK_map {r : Nat} : aK P ops (.map r) (some dd) rest Q s H = hK P ops rest Q (s.put dd (.map r)) H := id rfl
theorem aK_any : aK P ops .any none rest Q s H = hK P ops rest Q s H := id rfl
theorem rK_alloc {f : Nat → AV} : rK P ops (.alloc b f) d rest Q s H = aK P ops (f H.length) d rest Q s (H ++ [b]) := id rfl
theorem rK_upd : rK P ops (.upd H' v) d rest Q s H = aK P ops v d rest Q s H' := id rfl
theorem rK_pan : rK P ops (.pan v) d rest Q s H = Q (.pan v) s H := id rfl
theorem rK_call {f : FuncId} {args : List AV} : rK P ops (.call f args) d rest Q s H = (Enters P f ∧ ACalls P f args H (fun o H' => match o with | .ret v => cops P ops rest Q (s.put? d v) H' | .pan v => Q (.pan v) s H')) := id rfl
theorem o_move {x : Operand} : aop P s H (.move x) = .val (cev s x) := id rfl
theorem o_assign {x : Operand} : aop P s H (.assign x) = .val (cev s x) := id rfl
theorem o_pick {c x y : Operand} : aop P s H (.pick c x y) = aPick (cev s c) (cev s x) (cev s y) := id rfl
theorem o_alloc {t : TypeId} : aop P s H (.alloc t) = aAlloc P t := id rfl
theorem o_box {t : TypeId} {x : Operand} : aop P s H (.box t x) = aBox (cev s x).cells := id rfl
theorem o_build {t : TypeId} {l : List (Nat × Operand)} : aop P s H (.build t l.toArray) = aBuild P t (l.map fun p => (p.1, cev s p.2)) := id rfl
theorem o_buildSlice {t : TypeId} {len : Nat} {l : List (Nat × Operand)} : aop P s H (.buildSlice t len l.toArray) = aBuildSlice P t len (l.map fun p => (p.1, cev s p.2)) := id rfl
theorem o_load {t : TypeId} {x : Operand} : aop P s H (.load t x) = aLoad P t (cev s x) H := id rfl
theorem o_store {t : TypeId} {x y : Operand} : aop P s H (.store t x y) = aStore P t (cev s x) (cev s y) H := id rfl
theorem o_nilCheck {x : Operand} : aop P s H (.nilCheck x) = aNilCheck (cev s x) := id rfl
theorem o_binOp {o : BinOp} {t u : TypeId} {x y : Operand} : aop P s H (.binOp o t x y u) = aBinO P o t y (cev s x) (cev s y) := id rfl
theorem o_unOp {o : UnOp} {t : TypeId} {x : Operand} : aop P s H (.unOp o t x) = aUn o (cev s x) := id rfl
theorem o_convert {t u : TypeId} {x : Operand} : aop P s H (.convert t u x) = aConv P t u (cev s x) := id rfl
theorem o_slarr {t : TypeId} {x : Operand} : aop P s H (.sliceToArrayPointer t x) = aArrPtr P t (cev s x) := id rfl
theorem o_insert {t : TypeId} {x y z : Operand} : aop P s H (.insert t x y z) = aMapUpd P t (cev s x) (cev s y) (cev s z) H := id rfl
theorem o_makeInterface {t : TypeId} {x : Operand} : aop P s H (.makeInterface t x) = aMakeIface P t (cev s x) := id rfl
theorem o_makeFunc {fn : Fn} {l m : List Operand} : aop P s H (.makeFunc fn l.toArray m.toArray) = .val (.func fn (l.map (cev s)) (m.map (cev s))) := id rfl
theorem o_makeSlice {t : TypeId} {x y : Operand} : aop P s H (.makeSlice t x y) = aMakeSlice P t (cev s x) (cev s y) := id rfl
theorem o_slice {t : TypeId} {x : Operand} {lo hi mx : Option Operand} : aop P s H (.slice t x lo hi mx) = aSlice P t (cev s x) H (lo.map (cev s)) (hi.map (cev s)) (mx.map (cev s)) := id rfl
theorem o_fieldAddr {t : TypeId} {x : Operand} {f : Nat} : aop P s H (.fieldAddr t x f) = aFieldAddr P t (cev s x) f := id rfl
theorem o_field {t : TypeId} {x : Operand} {f : Nat} : aop P s H (.field t x f) = aField P t (cev s x) f := id rfl
theorem o_indexAddr {t : TypeId} {x y : Operand} : aop P s H (.indexAddr t x y) = aIndexAddr P t (cev s x) (cev s y) H := id rfl
theorem o_index {t : TypeId} {x y : Operand} : aop P s H (.index t x y) = aIndexV P t (cev s x) (cev s y) := id rfl
theorem o_typeAssert {t u : TypeId} {x : Operand} {ok : Bool} : aop P s H (.typeAssert x u t ok) = aAssert P (cev s x) t ok := id rfl
theorem o_extract {x : Operand} {k : Nat} : aop P s H (.extract x k) = aExtract (cev s x) k := id rfl
theorem o_call {t : Tmp} {l : List Operand} {ts : Array TypeId} : aop P s H (.call ⟨.value (.tmp t), l.toArray, ts⟩) = aCallV (s.get t) (l.map (cev s)) := id rfl
theorem o_callf {g : FuncId} {l : List Operand} {ts : Array TypeId} : aop P s H (.call ⟨.value (.func g), l.toArray, ts⟩) = aCallG (memO g ovl) P g (l.map (cev s)) H := id rfl
theorem o_len {x : Operand} {t : TypeId} : aop P s H (.call ⟨.builtin .len, #[x], #[t]⟩) = aLen P t (cev s x) := id rfl
theorem o_cap {x : Operand} {t : TypeId} : aop P s H (.call ⟨.builtin .cap, #[x], #[t]⟩) = aCap P t (cev s x) := id rfl
theorem o_clear {x : Operand} {t : TypeId} : aop P s H (.call ⟨.builtin .clear, #[x], #[t]⟩) = aClear P t (cev s x) H := id rfl
theorem o_copy {x y : Operand} {t u : TypeId} : aop P s H (.call ⟨.builtin .copy, #[x, y], #[t, u]⟩) = aCopyS P t (cev s x) (cev s y) H := id rfl
theorem o_append {x y : Operand} {t u : TypeId} : aop P s H (.call ⟨.builtin .append, #[x, y], #[t, u]⟩) = aAppendM P t u (cev s x) (cev s y) H := id rfl
theorem o_panic {x : Operand} : aop P s H (.panic x) = aPanIf (cev s x) := id rfl
theorem o_panicb {x : Operand} {ts : Array TypeId} : aop P s H (.call ⟨.builtin .panic, #[x], ts⟩) = aPanIf (cev s x) := id rfl
theorem o_lookup {t : TypeId} {x y : Operand} {ok : Bool} : aop P s H (.lookup t x y ok) = aLookup P t (cev s x) (cev s y) ok H := id rfl
theorem o_mapUpdate {t : TypeId} {x y z : Operand} : aop P s H (.mapUpdate t x y z) = aMapUpd P t (cev s x) (cev s y) (cev s z) H := id rfl
theorem o_makeMap {t : TypeId} {r : Option Operand} : aop P s H (.makeMap t r) = aMakeMap (r.map (cev s)) := id rfl
theorem o_max {l : List Operand} {ts : Array TypeId} : aop P s H (.call ⟨.builtin .max, l.toArray, ts⟩) = aMax (l.map (cev s)) := id rfl
theorem o_min {l : List Operand} {ts : Array TypeId} : aop P s H (.call ⟨.builtin .min, l.toArray, ts⟩) = aMin (l.map (cev s)) := id rfl
theorem cev_tmp {t : Tmp} : cev s (.tmp t) = s.get t := id rfl
theorem cev_glob {g : Nat} : cev s (.global g) = gAV g := id rfl
theorem cev_func {f : FuncId} : cev s (.func f) = .func (.func f) [] [] := id rfl
theorem cev_int {k : IntKind} {n : Int} : cev s (.const (.int k n)) = .int k n := id rfl
theorem cev_bool {b : Bool} : cev s (.const (.bool b)) = .bool b := id rfl
theorem cev_str {b : ByteArray} : cev s (.const (.string b)) = .str b := id rfl
theorem cev_nil : cev s (.const (.slice none 0 0)) = .view true 0 [] := id rfl
theorem cev_nilptr : cev s (.const (.pointer none)) = .nilptr := id rfl
theorem cev_nilif : cev s (.const .nilIface) = .nilif := id rfl
theorem cev_nilfunc : cev s (.const .nilFunc) = .nilfunc := id rfl
theorem cev_nilmap : cev s (.const (.map none)) = .nilmap := id rfl
theorem get_put {d t : Nat} : (s.put d v).get t = if t = d then v else s.get t := id rfl
theorem get_nil {t : Nat} : Ch.nil.get t = .any := id rfl
theorem w_skip : cwp P n D .skip Q s H = Q .normal s H := id rfl
theorem w_label {l : Nat} : cwp P n D (.label l) Q s H = Q .normal s H := id rfl
theorem w_ret : cwp P n D .ret Q s H = Q .ret s H := id rfl
theorem w_exit {i : Nat} : cwp P n D (.exit i) Q s H = Q (.exit i) s H := id rfl
theorem w_region {i : Nat} {l : List Oper} : cwp P n D (.region i l.toArray false) Q s H = cops P l.toArray l Q s H := id rfl
def seqD (b : Bool) (P : Program) (n : Nat) (D : Fx) (x y : Code) (Q : XQ) (s : Ch) (H : Heap) : Prop :=
  if b = true then ∃ K : KQ, cwp P n D x (thenX K Q) s H ∧ ∀ s' H', K s' H' → SWp P n D y Q s' H' else cwp P n D x (thenX (cwp P n D y Q) Q) s H
theorem w_seq0 {d : List Deferred} {B : Nat} {x y : Code} : cwp P n ⟨d, B, []⟩ (.seq x y) Q s H = cwp P n ⟨d, B, []⟩ x (thenX (cwp P n ⟨d, B, []⟩ y Q) Q) s H := id rfl
theorem w_seqc {d : List Deferred} {B c : Nat} {cs : List Nat} {x y : Code} : cwp P n ⟨d, B, c :: cs⟩ (.seq x y) Q s H = seqD (cutR (c :: cs) y) P n ⟨d, B, c :: cs⟩ x y Q s H := id rfl
theorem seqD_false {x y : Code} : seqD false P n D x y Q s H = cwp P n D x (thenX (cwp P n D y Q) Q) s H := id rfl
theorem cutR_seq {x y : Code} {cs : List Nat} : cutR cs (.seq x y) = cutR cs x := id rfl
theorem cutR_block {x : Code} {i : Nat} {cs : List Nat} : cutR cs (.block i x) = cutR cs x := id rfl
theorem cutR_loop {x : Code} {cs : List Nat} : cutR cs (.loop x) = cutR cs x := id rfl
theorem cutR_region {i : Nat} {l : Array Oper} {b : Bool} {cs : List Nat} : cutR cs (.region i l b) = memN i cs := id rfl
theorem cutR_cond {c : Operand} {x y : Code} {cs : List Nat} : cutR cs (.cond c x y) = false := id rfl
theorem cutR_ret {cs : List Nat} : cutR cs .ret = false := id rfl
theorem cutR_skip {cs : List Nat} : cutR cs .skip = false := id rfl
theorem cutR_exit {i : Nat} {cs : List Nat} : cutR cs (.exit i) = false := id rfl
theorem memN_nil {i : Nat} : memN i [] = false := id rfl
theorem memN_cons {i c : Nat} {cs : List Nat} : memN i (c :: cs) = if i = c then true else memN i cs := id rfl
def condD (P : Program) (n : Nat) (D : Fx) (v : AV) (x y : Code) (Q : XQ) (s : Ch) (H : Heap) : Prop := condK v (cwp P n D x Q s H) (cwp P n D y Q s H)
theorem w_cond {c : Operand} {x y : Code} : cwp P n D (.cond c x y) Q s H = condD P n D (cev s c) x y Q s H := id rfl
theorem condD_true {x y : Code} : condD P n D (.bool true) x y Q s H = cwp P n D x Q s H := by simp [condD, condK]
theorem condD_false {x y : Code} : condD P n D (.bool false) x y Q s H = cwp P n D y Q s H := by simp [condD, condK]
theorem condD_split {b : Bool} {x y : Code} (h1 : b = true → cwp P n D x Q s H) (h2 : b = false → cwp P n D y Q s H) : condD P n D (.bool b) x y Q s H := ⟨h1, h2⟩
theorem w_block {i : Nat} {x : Code} : cwp P n D (.block i x) Q s H = cwp P n D x (blockX i Q) s H := id rfl
theorem w_loop {x : Code} : cwp P n D (.loop x) Q s H = ∃ k, rounds (SWp P n D x) Q k s H := id rfl
theorem thenX_normal {K : KQ} : thenX K Q .normal s H = K s H := id rfl
theorem thenX_ret {K : KQ} : thenX K Q .ret s H = Q .ret s H := id rfl
theorem thenX_exit {K : KQ} {i : Nat} : thenX K Q (.exit i) s H = Q (.exit i) s H := id rfl
theorem thenX_pan {K : KQ} : thenX K Q (.pan v) s H = Q (.pan v) s H := id rfl
theorem blockX_normal {i : Nat} : blockX i Q .normal s H = Q .normal s H := id rfl
theorem blockX_ret {i : Nat} : blockX i Q .ret s H = Q .ret s H := id rfl
theorem blockX_pan {i : Nat} : blockX i Q (.pan v) s H = Q (.pan v) s H := id rfl
theorem blockX_exit {i j : Nat} : blockX i Q (.exit j) s H = if j = i then Q .normal s H else Q (.exit j) s H := by
  simp only [blockX]; split <;> rfl
theorem bodyX_ret {rs : List ResultVar} {Q : CQ} : bodyX P rs Q .ret s H = packRes (aResults P s H rs) (fun v => Q (.ret v) H) := id rfl
theorem bodyX_normal {rs : List ResultVar} {Q : CQ} : bodyX P rs Q .normal s H = packRes (aResults P s H rs) (fun v => Q (.ret v) H) := id rfl
theorem bodyX_pan {rs : List ResultVar} {Q : CQ} : bodyX P rs Q (.pan v) s H = Q (.pan v) H := id rfl
theorem res_nil : aResults P s H [] = some [] := id rfl
theorem res_tmp {t : Tmp} {rs : List ResultVar} : aResults P s H (.tmp t :: rs) = (aResults P s H rs).map (s.get t :: ·) := by
  simp only [aResults, aResult]; cases aResults P s H rs <;> rfl
theorem pack_one {K : AV → Prop} : packRes (some [v]) K = K v := id rfl
theorem pack_none {K : AV → Prop} : packRes (some []) K = K (.tuple []) := id rfl
theorem pack_more {u : AV} {l : List AV} {K : AV → Prop} : packRes (some (v :: u :: l)) K = K (.tuple (v :: u :: l)) := id rfl
theorem args_cons {x : AV} {xs : List AV} {k : Nat} : argsCh (x :: xs) k s = argsCh xs (k + 1) (s.put k x) := id rfl
theorem args_nil {k : Nat} : argsCh [] k s = s := id rfl
theorem gD_dec {p : Prop} [Decidable p] (h1 : p → gD P ops (.bool true) want op d rest Q s H) (h2 : ¬ p → gD P ops (.bool false) want op d rest Q s H) : gD P ops (.bool (decide p)) want op d rest Q s H := by
  by_cases h : p
  · simpa [h] using h1 h
  · simpa [h] using h2 h
theorem condD_dec {p : Prop} [Decidable p] {x y : Code} (h1 : p → cwp P n D x Q s H) (h2 : ¬ p → cwp P n D y Q s H) : condD P n D (.bool (decide p)) x y Q s H :=
  ⟨fun h => h1 (of_decide_eq_true h), fun h => h2 (of_decide_eq_false h)⟩
end
end Go.AM
namespace Go.AM
attribute [go_sem ↓] c_nil c_none c_some w_skip w_label w_ret w_exit w_region w_seq0 w_seqc seqD_false w_cond w_block thenX_normal thenX_ret thenX_exit thenX_pan blockX_normal blockX_ret blockX_pan blockX_exit bodyX_ret bodyX_normal bodyX_pan
attribute [go_sem] args_cons args_nil o_move o_assign o_pick o_alloc o_box o_build o_buildSlice o_load o_store o_nilCheck o_binOp o_unOp o_convert o_slarr o_insert o_copy o_clear o_makeInterface o_makeFunc o_makeSlice o_slice o_fieldAddr o_field o_indexAddr o_index o_typeAssert o_extract o_call o_callf o_len o_cap o_append o_panic o_panicb o_lookup o_mapUpdate o_makeMap o_max o_min cev_tmp cev_glob cev_func cev_int cev_bool cev_str cev_nil cev_nilptr cev_nilif cev_nilfunc cev_nilmap get_put get_nil cutR_seq cutR_block cutR_loop cutR_region cutR_cond cutR_ret cutR_skip cutR_exit memN_nil memN_cons condD_true condD_false res_nil res_tmp pack_one pack_none pack_more rK_val rK_valn rK_chkT rK_alloc rK_upd rK_pan aK_ptr aK_sl aK_map aK_any hK_cons gD_same gD_tf gD_ft gD_tfn gD_ftn gD_un gD_unn aLoad aLoadPtr aLoadBlk aLoadRow aStore aStorePtr aStoreBlk aAlloc aBox AV.cells AV.one aFieldAddr aFieldAddrPtr aField aIndexAddr aIndexD aIndexSl aIndexBlk aIndexArr aLen aCap capD aSlice aSliceD aSliceV aSliceView2 aSliceSl2 aSliceStr Bd.of Bd.lo aAppendM aAppX isI aAppendZ aAppendZB aAppendN norm0 cap0 aAppend aAppendE aAppendView aAppendSl TD.isSeq aElems aLenOf aBinO aAggs aAggEq aAggEqL aAggEqB eqCs eqC isNilSl isNilIf aNilIf aNilSlO aNilSl AV.slLen aBin aInt2 aInts aShift aBools aStrs aNil aUn aExtract aMakeIface aNilCheck aPick aAssert aFill aBuild aBuildD aFillRows aBuildSlice aBuildSliceE aMakeSlice aMakeSliceE aConv aConvS aBytesStr rowBytes_map aArrPtr aArrPtrD aCopyS shortS cutS aCopy aClear aClearB aCopyE aCopyB aCopyR aSliceArr aConvNum aConvD aIndexV aCallV aCallG aOvl aOvlB memO ovl aPanIf aLookup aMapUpd aMapUpdE aMapUpdB aLookupE mEnts keyAV keyEq mfind lookRes aMakeMap aMax aMin TD.isAgg splice rowAt gval List.map_cons List.map_nil List.getElem?_cons_zero List.getElem?_cons_succ List.getElem?_nil Option.getD_some Option.getD_none Option.map_some Option.map_none List.length_cons List.length_nil List.take_succ_cons List.take_zero List.take_nil List.drop_zero List.drop_succ_cons List.drop_nil List.nil_append List.cons_append List.append_nil List.set_cons_zero List.set_cons_succ List.all_cons List.all_nil Bool.and_self Bool.and_true Bool.true_and Bool.false_eq_true Nat.zero_add Nat.add_zero Nat.mul_one Nat.one_mul Nat.zero_mul Nat.lt_add_one Nat.le_refl true_and and_true and_self ne_eq not_false_eq_true not_true_eq_false Option.isSome_some List.replicate_zero List.replicate_succ Int.toNat_zero Int.toNat_natCast Bool.not_true Bool.not_false decide_true decide_false List.getElem?_toArray Ch.put? Option.bind_some Option.bind_none true_or or_true Nat.le_add_left List.append_assoc IntKind.wrap_i64 eq_self
end Go.AM
set_option linter.unusedVariables false
set_option linter.unusedSimpArgs false
namespace Go.AM
mutual
def AV.ren (π : Nat → Nat) : AV → AV
  | .ptr r i j => .ptr (π r) i j
  | .sl r off len cap => .sl (π r) off len cap
  | .map r => .map (π r)
  | .chan r => .chan (π r)
  | .yfn r => .yfn (π r)
  | .rsl r i j len => .rsl (π r) i j len
  | .func fn xs ys => .func fn (renL π xs) (renL π ys)
  | .iface t v => .iface t (AV.ren π v)
  | .agg cs => .agg (renL π cs)
  | .tuple vs => .tuple (renL π vs)
  | .any => .any | .bool b => .bool b | .int k n => .int k n | .str s => .str s | .nilptr => .nilptr
  | .cptr row j => .cptr row j | .view f z xs => .view f z xs | .nilchan => .nilchan | .nilmap => .nilmap | .nilfunc => .nilfunc | .nilif => .nilif
def renL (π : Nat → Nat) : List AV → List AV
  | [] => []
  | x :: xs => AV.ren π x :: renL π xs
end
theorem renL_map (π : Nat → Nat) : ∀ (xs : List AV), renL π xs = xs.map (AV.ren π)
  | [] => by simp [renL]
  | x :: xs => by simp [renL, renL_map π xs]
def Ch.ren (π : Nat → Nat) : Ch → Ch
  | .nil => .nil
  | .put s d v => .put (s.ren π) d (v.ren π)
theorem Ch.get_ren (π : Nat → Nat) : ∀ (s : Ch) (t : Nat), (s.ren π).get t = (s.get t).ren π
  | .nil, t => rfl
  | .put s d v, t => by
    simp only [Ch.ren, Ch.get, Ch.get_ren π s]
    split <;> rfl
def Blk.ren (π : Nat → Nat) : Blk → Blk
  | .dead => .dead
  | .rows sz xs => .rows sz (xs.map fun row => row.map (AV.ren π))
  | .amap es => .amap (es.map fun e => (e.1, e.2.ren π))
  | .raw q => .raw q
  | .lrec q n s => .lrec q n (s.ren π)
theorem one_ren (π : Nat → Nat) (x : AV) : (x.ren π).one = x.one := by cases x <;> simp [AV.ren, AV.one]
theorem VR.ren {sn : Snap} {ρ : Env} {x : AV} {v : Value} (h : VR sn ρ x v) : ∀ {π : Nat → Nat} {ρ' : Env}, (∀ r p, ρ r = some p → ρ' (π r) = some p) → VR sn ρ' (x.ren π) v := by
  induction h with
  | any => intro _ _ _; simp only [AV.ren]; exact .any _ _
  | bool => intro _ _ _; simp only [AV.ren]; exact .bool _ _
  | int => intro _ _ _; simp only [AV.ren]; exact .int _ _ _
  | str => intro _ _ _; simp only [AV.ren]; exact .str _ _
  | nilptr => intro _ _ _; simp only [AV.ren]; exact .nilptr _
  | ptr ρ r i j p h => intro π ρ' hr; simp only [AV.ren]; exact .ptr _ _ _ _ _ (hr _ _ h)
  | cptr ρ row j b o vs hc ho hr ih => intro π ρ' _; simp only [AV.ren]; exact .cptr _ _ _ b o vs hc ho hr
  | view ρ full sz xs a b o c vs hl hm hf ha hz hc ho hr ih => intro π ρ' _; simp only [AV.ren]; exact .view _ _ _ _ a b o c vs hl hm hf ha hz hc ho hr
  | sl ρ r off len c cap ad p h ha hl hm hn hc => intro π ρ' hr; simp only [AV.ren]; exact .sl _ _ _ _ _ _ ad p (hr _ _ h) ha hl hm hn hc
  | sl0 ρ r off cap a hc => intro π ρ' hr; simp only [AV.ren]; exact .sl0 _ _ _ _ a hc
  | nilchan => intro _ _ _; simp only [AV.ren]; exact .nilchan _
  | chan ρ r p h => intro π ρ' hr; simp only [AV.ren]; exact .chan _ _ p (hr _ _ h)
  | yfn ρ r p h => intro π ρ' hr; simp only [AV.ren]; exact .yfn _ _ p (hr _ _ h)
  | rsl ρ r i j len p h hm => intro π ρ' hr; simp only [AV.ren]; exact .rsl _ _ _ _ _ p (hr _ _ h) hm
  | nilmap => intro _ _ _; simp only [AV.ren]; exact .nilmap _
  | map ρ r p h => intro π ρ' hr; simp only [AV.ren]; exact .map _ _ p (hr _ _ h)
  | nilfunc => intro _ _ _; simp only [AV.ren]; exact .nilfunc _
  | func ρ fn xs ys us vs hu hv h1 h2 ih1 ih2 =>
    intro π ρ' hr
    simp only [AV.ren, renL_map]
    refine .func _ _ _ _ _ _ (by simpa using hu) (by simpa using hv) (fun k x y hx hy => ?_) (fun k x y hx hy => ?_)
    · simp only [List.getElem?_map, Option.map_eq_some_iff] at hx
      obtain ⟨z, hz, rfl⟩ := hx
      exact ih1 k z y hz hy hr
    · simp only [List.getElem?_map, Option.map_eq_some_iff] at hx
      obtain ⟨z, hz, rfl⟩ := hx
      exact ih2 k z y hz hy hr
  | nilif => intro _ _ _; simp only [AV.ren]; exact .nilif _
  | iface ρ t x y h ih => intro π ρ' hr; simp only [AV.ren]; exact .iface _ _ _ _ (ih hr)
  | agg ρ xs ys hs' h ih =>
    intro π ρ' hr
    simp only [AV.ren, renL_map]
    refine .agg _ _ _ (by simpa using hs') (fun k x y hx hy => ?_)
    simp only [List.getElem?_map, Option.map_eq_some_iff] at hx
    obtain ⟨z, hz, rfl⟩ := hx
    exact ih k z y hz hy hr
  | tuple ρ xs ys hs' h ih =>
    intro π ρ' hr
    simp only [AV.ren, renL_map]
    refine .tuple _ _ _ (by simpa using hs') (fun k x y hx hy => ?_)
    simp only [List.getElem?_map, Option.map_eq_some_iff] at hx
    obtain ⟨z, hz, rfl⟩ := hx
    exact ih k z y hz hy hr
theorem VR.unren {sn : Snap} {ρ : Env} {y : AV} {v : Value} (h : VR sn ρ y v) : ∀ {π : Nat → Nat} {ρ' : Env} {x : AV}, y = x.ren π → (∀ r p, ρ (π r) = some p → ρ' r = some p) → VR sn ρ' x v := by
  induction h with
  | any => intro π ρ' x e _; cases x <;> simp [AV.ren] at e; exact .any _ _
  | bool => intro π ρ' x e _; cases x <;> simp [AV.ren] at e; subst e; exact .bool _ _
  | int => intro π ρ' x e _; cases x <;> simp [AV.ren] at e; obtain ⟨rfl, rfl⟩ := e; exact .int _ _ _
  | str => intro π ρ' x e _; cases x <;> simp [AV.ren] at e; subst e; exact .str _ _
  | nilptr => intro π ρ' x e _; cases x <;> simp [AV.ren] at e; exact .nilptr _
  | ptr ρ r i j p h => intro π ρ' x e hr; cases x <;> simp [AV.ren] at e; obtain ⟨rfl, rfl, rfl⟩ := e; exact .ptr _ _ _ _ _ (hr _ _ h)
  | cptr ρ row j b o vs hc ho hr ih => intro π ρ' x e _; cases x <;> simp [AV.ren] at e; obtain ⟨rfl, rfl⟩ := e; exact .cptr _ _ _ b o vs hc ho hr
  | view ρ full sz xs a b o c vs hl hm hf ha hz hc ho hr ih => intro π ρ' x e _; cases x <;> simp [AV.ren] at e; obtain ⟨rfl, rfl, rfl⟩ := e; exact .view _ _ _ _ a b o c vs hl hm hf ha hz hc ho hr
  | sl ρ r off len c cap ad p h ha hl hm hn hc => intro π ρ' x e hr; cases x <;> simp [AV.ren] at e; obtain ⟨rfl, rfl, rfl, rfl⟩ := e; exact .sl _ _ _ _ _ _ ad p (hr _ _ h) ha hl hm hn hc
  | sl0 ρ r off cap a hc => intro π ρ' x e hr; cases x <;> simp [AV.ren] at e; obtain ⟨rfl, rfl, rfl, rfl⟩ := e; exact .sl0 _ _ _ _ a hc
  | nilchan => intro π ρ' x e _; cases x <;> simp [AV.ren] at e; exact .nilchan _
  | chan ρ r p h => intro π ρ' x e hr; cases x <;> simp [AV.ren] at e; subst e; exact .chan _ _ p (hr _ _ h)
  | yfn ρ r p h => intro π ρ' x e hr; cases x <;> simp [AV.ren] at e; subst e; exact .yfn _ _ p (hr _ _ h)
  | rsl ρ r i j len p h hm => intro π ρ' x e hr; cases x <;> simp [AV.ren] at e; obtain ⟨rfl, rfl, rfl, rfl⟩ := e; exact .rsl _ _ _ _ _ p (hr _ _ h) hm
  | nilmap => intro π ρ' x e _; cases x <;> simp [AV.ren] at e; exact .nilmap _
  | map ρ r p h => intro π ρ' x e hr; cases x <;> simp [AV.ren] at e; subst e; exact .map _ _ p (hr _ _ h)
  | nilfunc => intro π ρ' x e _; cases x <;> simp [AV.ren] at e; exact .nilfunc _
  | func ρ fn xs ys us vs hu hv h1 h2 ih1 ih2 =>
    intro π ρ' x e hr
    cases x <;> simp [AV.ren, renL_map] at e
    obtain ⟨rfl, rfl, rfl⟩ := e
    refine .func _ _ _ _ _ _ (by simpa using hu) (by simpa using hv) (fun k x y hx hy => ?_) (fun k x y hx hy => ?_)
    · exact ih1 k (x.ren π) y (by simp [hx]) hy rfl hr
    · exact ih2 k (x.ren π) y (by simp [hx]) hy rfl hr
  | nilif => intro π ρ' x e _; cases x <;> simp [AV.ren] at e; exact .nilif _
  | iface ρ t x y h ih => intro π ρ' x e hr; cases x <;> simp [AV.ren] at e; obtain ⟨rfl, rfl⟩ := e; exact .iface _ _ _ _ (ih rfl hr)
  | agg ρ xs ys hs' h ih =>
    intro π ρ' x e hr
    cases x <;> simp [AV.ren, renL_map] at e
    subst e
    exact .agg _ _ _ (by simpa using hs') (fun k x y hx hy => ih k (x.ren π) y (by simp [hx]) hy rfl hr)
  | tuple ρ xs ys hs' h ih =>
    intro π ρ' x e hr
    cases x <;> simp [AV.ren, renL_map] at e
    subst e
    exact .tuple _ _ _ (by simpa using hs') (fun k x y hx hy => ih k (x.ren π) y (by simp [hx]) hy rfl hr)
theorem BlkR.ren {sn : Snap} {ρ ρ' : Env} {π : Nat → Nat} {p : Place} {b : Blk} {o : Obj} (hr : ∀ r p, ρ r = some p → ρ' (π r) = some p) (h : BlkR sn ρ p b o) : BlkR sn ρ' p (b.ren π) o := by
  cases b with
  | dead => trivial
  | rows sz xs =>
    cases o <;> simp only [BlkR, Blk.ren] at h ⊢
    obtain ⟨h1, h2, h3, h4, h5, h6⟩ := h
    refine ⟨h1, h2, by simpa using h3, fun i row hi => ?_, fun i row hi j x hj => ?_, h6⟩
    · simp only [List.getElem?_map, Option.map_eq_some_iff] at hi
      obtain ⟨r, hr', rfl⟩ := hi
      simpa using h4 i r hr'
    · simp only [List.getElem?_map, Option.map_eq_some_iff] at hi
      obtain ⟨r, hr', rfl⟩ := hi
      simp only [List.getElem?_map, Option.map_eq_some_iff] at hj
      obtain ⟨y, hy, rfl⟩ := hj
      obtain ⟨v, e1, e2, e3⟩ := h5 i r hr' j y hy
      exact ⟨v, e1, by rw [one_ren]; exact e2, e3.ren hr⟩
  | amap es =>
    cases o <;> simp only [BlkR, Blk.ren] at h ⊢
    refine ⟨by simpa using h.1, fun k x m hx hm => ?_⟩
    simp only [List.getElem?_map, Option.map_eq_some_iff] at hx
    obtain ⟨y, hy, rfl⟩ := hx
    exact ⟨(h.2 k y m hy hm).1, (h.2 k y m hy hm).2.ren hr⟩
  | raw q => exact h
  | lrec q n s =>
    cases o <;> simp only [BlkR, Blk.ren] at h ⊢
    exact ⟨h.1, fun t => by rw [Ch.get_ren]; exact (h.2.1 t).ren hr, h.2.2⟩
theorem BlkR.unren {sn : Snap} {ρ ρ' : Env} {π : Nat → Nat} {p : Place} {b : Blk} {o : Obj} (hr : ∀ r p, ρ (π r) = some p → ρ' r = some p) (h : BlkR sn ρ p (b.ren π) o) : BlkR sn ρ' p b o := by
  cases b with
  | dead => trivial
  | rows sz xs =>
    cases o <;> simp only [BlkR, Blk.ren] at h ⊢
    obtain ⟨h1, h2, h3, h4, h5, h6⟩ := h
    refine ⟨h1, h2, by simpa using h3, fun i row hi => ?_, fun i row hi j x hj => ?_, h6⟩
    · have := h4 i (row.map (AV.ren π)) (by simp [hi])
      simpa using this
    · obtain ⟨v, e1, e2, e3⟩ := h5 i (row.map (AV.ren π)) (by simp [hi]) j (x.ren π) (by simp [hj])
      exact ⟨v, e1, by rw [one_ren] at e2; exact e2, e3.unren rfl hr⟩
  | amap es =>
    cases o <;> simp only [BlkR, Blk.ren] at h ⊢
    refine ⟨by simpa using h.1, fun k x m hx hm => ?_⟩
    have := h.2 k (x.1, x.2.ren π) m (by simp [hx]) hm
    exact ⟨this.1, this.2.unren rfl hr⟩
  | raw q => exact h
  | lrec q n s =>
    cases o <;> simp only [BlkR, Blk.ren] at h ⊢
    exact ⟨h.1, fun t => by have := h.2.1 t; rw [Ch.get_ren] at this; exact this.unren rfl hr, h.2.2⟩
theorem live_ren {π : Nat → Nat} {b : Blk} : (b.ren π).live ↔ b.live := by cases b <;> simp [Blk.ren, Blk.live]
end Go.AM
set_option linter.unusedVariables false
set_option linter.unusedSimpArgs false
namespace Go.AM
def setMany : Heap → List Nat → List Blk → Heap
  | H, [], _ => H
  | H, _ :: _, [] => H
  | H, i :: is, b :: bs => setMany (H.set i b) is bs
def Out.ren (π : Nat → Nat) : Out → Out
  | .ret v => .ret (v.ren π)
  | .pan v => .pan (v.ren π)
def pi (sel : List Nat) (m : Nat) (k : Nat) : Nat := (sel[k]?).getD (m + (k - sel.length))
def patch (H : Heap) (sel : List Nat) (H0 : Heap) : Heap :=
  setMany H sel (H0.map (Blk.ren (pi sel H.length))) ++ (H0.drop sel.length).map (Blk.ren (pi sel H.length))
theorem setMany_length : ∀ (sel : List Nat) (H : Heap) (bs : List Blk), (setMany H sel bs).length = H.length := by
  intro sel
  induction sel with
  | nil => intro H bs; simp only [setMany]
  | cons i is ih =>
    intro H bs
    cases bs with
    | nil => simp only [setMany]
    | cons b bs => simp only [setMany]; rw [ih]; simp
theorem setMany_get : ∀ (sel : List Nat) (H : Heap) (bs : List Blk), sel.Nodup → sel.length ≤ bs.length → (∀ i ∈ sel, i < H.length) →
    ∀ r, (∀ k : Nat, sel[k]? = some r → (setMany H sel bs)[r]? = bs[k]?) ∧ (r ∉ sel → (setMany H sel bs)[r]? = H[r]?) := by
  intro sel
  induction sel with
  | nil => intro H bs _ _ _ r; exact ⟨fun k hk => by simp at hk, fun _ => by simp only [setMany]⟩
  | cons i is ih =>
    intro H bs hn hl hlt r
    cases bs with
    | nil => simp at hl
    | cons b bs =>
      simp only [List.nodup_cons] at hn
      obtain ⟨h1, h2⟩ := ih (H.set i b) bs hn.2 (by simpa using hl) (fun j hj => by simpa using hlt j (by simp [hj])) r
      simp only [setMany]
      refine ⟨fun k hk => ?_, fun hr => ?_⟩
      · cases k with
        | zero =>
          simp at hk
          subst hk
          rw [h2 hn.1]
          have := hlt i (by simp)
          simp [this]
        | succ k => simpa using h1 k (by simpa using hk)
      · simp only [List.mem_cons, not_or] at hr
        rw [h2 hr.2, List.getElem?_set]
        rw [if_neg (fun e => hr.1 e.symm)]
theorem pi_lt {sel : List Nat} {m k : Nat} (h : k < sel.length) : sel[k]? = some (pi sel m k) := by
  simp [pi, h]
theorem pi_ge {sel : List Nat} {m k : Nat} (h : sel.length ≤ k) : pi sel m k = m + (k - sel.length) := by
  simp [pi, List.getElem?_eq_none h]
theorem ACalls.use {P : Program} {f : FuncId} {args0 : List AV} {H0 : Heap} {Q0 Q : CQ} (hc : ACalls P f args0 H0 Q0) {H : Heap} (sel : List Nat) (hn : sel.Nodup) (hl : sel.length = H0.length) (hlt : ∀ i ∈ sel, i < H.length)
    (hblk : ∀ k : Nat, k < sel.length → H[pi sel H.length k]? = (H0[k]?).map (Blk.ren (pi sel H.length))) {args : List AV} (hargs : args = args0.map (AV.ren (pi sel H.length)))
    (hq : ∀ o H0', Q0 o H0' → Q (o.ren (pi sel H.length)) (patch H sel H0')) : ACalls P f args H Q := by
  intro sn ρ w vs hR hv
  let ρ0 : Env := fun k => if k < sel.length then ρ (pi sel H.length k) else none
  have hρ0 : ∀ k, k < sel.length → ρ0 k = ρ (pi sel H.length k) := fun k hk => by simp only [ρ0]; rw [if_pos hk]
  have hinjsel : ∀ k k', k < sel.length → k' < sel.length → pi sel H.length k = pi sel H.length k' → k = k' := fun k k' hk hk' he => by
    have h1 := pi_lt (m := H.length) hk
    have h2 := pi_lt (m := H.length) hk'
    rw [← he] at h2
    exact (List.getElem?_inj hk hn).1 (h1.trans h2.symm)
  have hmem : ∀ k, k < sel.length → pi sel H.length k ∈ sel := fun k hk => List.mem_of_getElem? (pi_lt hk)
  have hup : ∀ r p, ρ0 r = some p → ρ (pi sel H.length r) = some p := fun r p hp => by
    by_cases hk : r < sel.length
    · rw [hρ0 r hk] at hp; exact hp
    · simp only [ρ0, if_neg hk] at hp; cases hp
  have hdown : ∀ x v, VR sn ρ (x.ren (pi sel H.length)) v → VR sn (fun r => ρ (pi sel H.length r)) x v := fun x v h => h.unren rfl (fun _ _ h => h)
  have htop : ∀ r, sel.length ≤ r → ρ (pi sel H.length r) = none := fun r hr => by
    rw [pi_ge hr]; exact hR.top _ (by omega)
  have hown0 : ∀ b, Owned ρ0 H0 b → Owned ρ H b := by
    rintro b ⟨r, blk, p, h1, h2, h3, h4⟩
    have hk : r < sel.length := by rw [hl]; exact (List.getElem?_eq_some_iff.1 h1).1
    exact ⟨pi sel H.length r, blk.ren (pi sel H.length), p, by rw [hblk r hk, h1]; rfl, live_ren.2 h2, by rw [← hρ0 r hk]; exact h3, h4⟩
  have hR0 : Rel sn ρ0 H0 w := by
    refine ⟨hR.gl, hR.snap, fun r blk p h1 h2 h3 => ?_, fun r r' blk blk' p p' h1 h2 h1' h2' h3 h3' he => ?_, fun r hr => ?_⟩
    · have hk : r < sel.length := by rw [hl]; exact (List.getElem?_eq_some_iff.1 h1).1
      rw [hρ0 r hk] at h3
      obtain ⟨g1, obj, g2, g3⟩ := hR.own (pi sel H.length r) (blk.ren (pi sel H.length)) p (by rw [hblk r hk, h1]; rfl) (live_ren.2 h2) h3
      refine ⟨g1, obj, g2, g3.unren (fun q p' hq => ?_)⟩
      by_cases hq' : q < sel.length
      · rw [hρ0 q hq']; exact hq
      · rw [htop q (by omega)] at hq; cases hq
    · have hk : r < sel.length := by rw [hl]; exact (List.getElem?_eq_some_iff.1 h1).1
      have hk' : r' < sel.length := by rw [hl]; exact (List.getElem?_eq_some_iff.1 h1').1
      rw [hρ0 r hk] at h3
      rw [hρ0 r' hk'] at h3'
      exact hinjsel r r' hk hk' (hR.inj _ _ _ _ p p' (by rw [hblk r hk, h1]; rfl) (live_ren.2 h2) (by rw [hblk r' hk', h1']; rfl) (live_ren.2 h2') h3 h3' he)
    · simp only [ρ0]
      rw [if_neg (by omega)]
  have hv0 : VRs sn ρ0 args0 vs.toList := by
    subst hargs
    refine ⟨by simpa using hv.1, fun k x y hx hy => ?_⟩
    have := hv.2 k (x.ren (pi sel H.length)) y (by simp [hx]) hy
    refine this.unren rfl (fun q p' hq => ?_)
    by_cases hq' : q < sel.length
    · rw [hρ0 q hq']; exact hq
    · rw [htop q (by omega)] at hq; cases hq
  refine (hc sn ρ0 w vs hR0 hv0).mono ?_
  rintro e w' ⟨sn', ρ0', H0', out, h1, h2, h3, h4⟩
  have hlen' : sel.length ≤ H0'.length := by rw [hl]; exact h3.len
  let ρ' : Env := fun r => if r < H.length then ρ r else ρ0' (sel.length + (r - H.length))
  have hρlt : ∀ r, r < H.length → ρ' r = ρ r := fun r hr => by simp only [ρ']; rw [if_pos hr]
  have hcomp : ∀ k, ρ' (pi sel H.length k) = ρ0' k := fun k => by
    by_cases hk : k < sel.length
    · have := hlt _ (hmem k hk)
      rw [hρlt _ this, ← hρ0 k hk]
      exact (h3.envlt k (by omega)).symm
    · rw [pi_ge (by omega)]
      simp only [ρ']
      rw [if_neg (by omega)]
      congr 1
      omega
  have hup' : ∀ r p, ρ0' r = some p → ρ' (pi sel H.length r) = some p := fun r p hp => by rw [hcomp]; exact hp
  have hmono : ∀ r p, ρ r = some p → ρ' r = some p := fun r p hp => by
    have : r < H.length := by
      rcases Nat.lt_or_ge r H.length with h | h
      · exact h
      · rw [hR.top r h] at hp; cases hp
    rw [hρlt r this]; exact hp
  have hmaplen : sel.length ≤ (H0'.map (Blk.ren (pi sel H.length))).length := by simpa using hlen'
  have hsm := setMany_get sel H (H0'.map (Blk.ren (pi sel H.length))) hn hmaplen hlt
  have hsl := setMany_length sel H (H0'.map (Blk.ren (pi sel H.length)))
  have key : ∀ (r : Nat) blk, (patch H sel H0')[r]? = some blk → (∃ k b, H0'[k]? = some b ∧ blk = b.ren (pi sel H.length) ∧ r = pi sel H.length k) ∨ (r < H.length ∧ r ∉ sel ∧ H[r]? = some blk) := fun r blk hr => by
    unfold patch at hr
    rw [List.getElem?_append, hsl] at hr
    split at hr
    · rename_i hrl
      by_cases hrs : r ∈ sel
      · obtain ⟨k, hk⟩ := List.mem_iff_getElem?.1 hrs
        rw [(hsm r).1 k hk] at hr
        simp only [List.getElem?_map, Option.map_eq_some_iff] at hr
        obtain ⟨b, hb, rfl⟩ := hr
        have hkl := (List.getElem?_eq_some_iff.1 hk).1
        have := pi_lt (m := H.length) hkl
        rw [hk] at this
        injection this with this
        exact .inl ⟨k, b, hb, rfl, this⟩
      · rw [(hsm r).2 hrs] at hr
        exact .inr ⟨hrl, hrs, hr⟩
    · rename_i hrl
      simp only [List.getElem?_map, Option.map_eq_some_iff, List.getElem?_drop] at hr
      obtain ⟨b, hb, rfl⟩ := hr
      refine .inl ⟨sel.length + (r - H.length), b, hb, rfl, ?_⟩
      rw [pi_ge (by omega)]
      omega
  have hnotown : ∀ (r : Nat) blk p, r ∉ sel → H[r]? = some blk → blk.live → ρ r = some p → ¬ Owned ρ0 H0 p.b := by
    rintro r blk p hrs hr hlv hp ⟨k, b, q, g1, g2, g3, g4⟩
    have hk : k < sel.length := by rw [hl]; exact (List.getElem?_eq_some_iff.1 g1).1
    rw [hρ0 k hk] at g3
    have := hR.inj _ _ _ _ q p (by rw [hblk k hk, g1]; rfl) (live_ren.2 g2) hr hlv g3 hp g4
    rw [← this] at hrs
    exact hrs (hmem k hk)
  have hkeepH : ∀ (r : Nat) blk p, r ∉ sel → H[r]? = some blk → blk.live → ρ r = some p → w'.heap[p.b]? = w.heap[p.b]? ∧ sn' p.b = none := fun r blk p hrs hr hlv hp => by
    have h5 := hnotown r blk p hrs hr hlv hp
    have hlt' := hR.lt hr hlv hp
    refine ⟨h3.frame _ hlt' h5, ?_⟩
    have h6 := (hR.own r blk p hr hlv hp).1
    by_cases e : sn' p.b = sn p.b
    · rw [e]; exact h6
    · rcases h3.newsnap _ e with h7 | h7
      · omega
      · exact absurd h7 h5
  have hnewown : ∀ (k : Nat) b p, H0'[k]? = some b → b.live → ρ0' k = some p → w.heap.size ≤ p.b ∨ Owned ρ0 H0 p.b := fun k b p g1 g2 g3 => h3.newown _ ⟨k, b, p, g1, g2, g3, rfl⟩
  refine ⟨sn', ρ', patch H sel H0', out.ren (pi sel H.length), ?_, ?_, ?_, hq _ _ h4⟩
  · cases out with
    | ret v =>
      cases e with
      | returned cv => exact (show VR sn' ρ0' v cv from h1).ren hup'
      | _ => exact h1.elim
    | pan v =>
      cases e with
      | panicked ch =>
        obtain ⟨x, cv, e1, rfl, hx⟩ := h1.pan_inv
        cases e1
        exact hx.ren hup'
      | _ => exact h1.elim
  · refine ⟨h2.gl, h2.snap, fun r blk p hr hlv hp => ?_, fun r r' blk blk' p p' hr hlv hr' hlv' hp hp' he => ?_, fun r hr => ?_⟩
    · rcases key r blk hr with ⟨k, b, hb, rfl, rfl⟩ | ⟨hrl, hrs, hr0⟩
      · rw [hcomp] at hp
        obtain ⟨g1, obj, g2, g3⟩ := h2.own k b p hb (live_ren.1 hlv) hp
        exact ⟨g1, obj, g2, g3.ren hup'⟩
      · rw [hρlt r hrl] at hp
        obtain ⟨g1, obj, g2, g3⟩ := hR.own r blk p hr0 hlv hp
        obtain ⟨k1, k2⟩ := hkeepH r blk p hrs hr0 hlv hp
        exact ⟨k2, obj, by rw [k1]; exact g2, g3.mono h3.snap hmono⟩
    · rcases key r blk hr with ⟨k, b, hb, rfl, rfl⟩ | ⟨hrl, hrs, hr0⟩ <;> rcases key r' blk' hr' with ⟨k', b', hb', rfl, rfl⟩ | ⟨hrl', hrs', hr0'⟩
      · rw [hcomp] at hp hp'
        rw [h2.inj k k' b b' p p' hb (live_ren.1 hlv) hb' (live_ren.1 hlv') hp hp' he]
      · rw [hcomp] at hp
        rw [hρlt _ hrl'] at hp'
        rcases hnewown k b p hb (live_ren.1 hlv) hp with h5 | h5
        · have := hR.lt hr0' hlv' hp'; omega
        · rw [he] at h5; exact absurd h5 (hnotown _ _ _ hrs' hr0' hlv' hp')
      · rw [hcomp] at hp'
        rw [hρlt _ hrl] at hp
        rcases hnewown k' b' p' hb' (live_ren.1 hlv') hp' with h5 | h5
        · have := hR.lt hr0 hlv hp; omega
        · rw [← he] at h5; exact absurd h5 (hnotown _ _ _ hrs hr0 hlv hp)
      · rw [hρlt _ hrl] at hp
        rw [hρlt _ hrl'] at hp'
        exact hR.inj r r' blk blk' p p' hr0 hlv hr0' hlv' hp hp' he
    · unfold patch at hr
      simp only [List.length_append, hsl, List.length_map, List.length_drop] at hr
      simp only [ρ']
      rw [if_neg (by omega)]
      exact h2.top _ (by omega)
  · refine ⟨hmono, hρlt, by unfold patch; simp only [List.length_append, hsl]; omega, h3.snap, h3.below, h3.os, h3.tape, h3.output, fun b hb ho => h3.frame b hb (fun h => ho (hown0 b h)), fun b hb => (h3.newsnap b hb).imp id (hown0 b), fun b ho => ?_⟩
    obtain ⟨r, blk, p, hr, hlv, hp, rfl⟩ := ho
    rcases key r blk hr with ⟨k, b, hb, rfl, rfl⟩ | ⟨hrl, hrs, hr0⟩
    · rw [hcomp] at hp
      exact (hnewown k b p hb (live_ren.1 hlv) hp).imp id (hown0 _)
    · rw [hρlt _ hrl] at hp
      exact .inr ⟨r, blk, p, hr0, hlv, hp, rfl⟩
end Go.AM
set_option linter.unusedVariables false
set_option linter.unusedSimpArgs false
namespace Go.AM
mutual
def AV.lt (m : Nat) : AV → Bool
  | .ptr r _ _ => decide (r < m)
  | .sl r _ _ _ => decide (r < m)
  | .map r => decide (r < m)
  | .chan r => decide (r < m)
  | .yfn r => decide (r < m)
  | .rsl r _ _ _ => decide (r < m)
  | .func _ xs ys => ltL m xs && ltL m ys
  | .iface _ v => AV.lt m v
  | .agg cs => ltL m cs
  | .tuple vs => ltL m vs
  | .any | .bool _ | .int _ _ | .str _ | .nilptr | .cptr _ _ | .view _ _ _ | .nilchan | .nilmap | .nilfunc | .nilif => true
def ltL (m : Nat) : List AV → Bool
  | [] => true
  | x :: xs => AV.lt m x && ltL m xs
end
theorem ltL_get {m : Nat} : ∀ {xs : List AV}, ltL m xs = true → ∀ {k : Nat} {x : AV}, xs[k]? = some x → x.lt m = true
  | [], _, k, x, h => by simp at h
  | y :: ys, hl, k, x, h => by
    simp only [ltL, Bool.and_eq_true] at hl
    cases k with
    | zero => simp at h; subst h; exact hl.1
    | succ k => exact ltL_get hl.2 (by simpa using h)
theorem ltL_all {m : Nat} : ∀ {xs : List AV}, (∀ x ∈ xs, x.lt m = true) → ltL m xs = true
  | [], _ => rfl
  | y :: ys, h => by simp only [ltL, Bool.and_eq_true]; exact ⟨h y (by simp), ltL_all (fun x hx => h x (by simp [hx]))⟩
def Ch.lt (m : Nat) : Ch → Bool
  | .nil => true
  | .put s _ v => s.lt m && v.lt m
theorem Ch.get_lt {m : Nat} : ∀ {s : Ch}, s.lt m = true → ∀ t, (s.get t).lt m = true
  | .nil, _, t => rfl
  | .put s d v, h, t => by
    simp only [Ch.lt, Bool.and_eq_true] at h
    simp only [Ch.get]
    split
    · exact h.2
    · exact Ch.get_lt h.1 t
def Blk.lt (m : Nat) : Blk → Prop
  | .dead => True
  | .rows _ xs => ∀ row ∈ xs, ltL m row = true
  | .amap es => ∀ e ∈ es, e.2.lt m = true
  | .raw _ => True
  | .lrec _ _ s => s.lt m = true
theorem VR.cut {sn : Snap} {ρ : Env} {x : AV} {v : Value} (h : VR sn ρ x v) : ∀ {m : Nat} {ρ' : Env}, x.lt m = true → (∀ r p, r < m → ρ r = some p → ρ' r = some p) → VR sn ρ' x v := by
  induction h with
  | any => intro _ _ _ _; exact .any _ _
  | bool => intro _ _ _ _; exact .bool _ _
  | int => intro _ _ _ _; exact .int _ _ _
  | str => intro _ _ _ _; exact .str _ _
  | nilptr => intro _ _ _ _; exact .nilptr _
  | ptr ρ r i j p h => intro m ρ' hm hr; simp only [AV.lt, decide_eq_true_eq] at hm; exact .ptr _ _ _ _ _ (hr _ _ hm h)
  | cptr ρ row j b o vs hc ho hr ih => intro _ _ _ _; exact .cptr _ _ _ b o vs hc ho hr
  | view ρ full sz xs a b o c vs hl hm hf ha hz hc ho hr ih => intro _ _ _ _; exact .view _ _ _ _ a b o c vs hl hm hf ha hz hc ho hr
  | sl ρ r off len c cap ad p h ha hl hm hn hc => intro m ρ' hlt hr; simp only [AV.lt, decide_eq_true_eq] at hlt; exact .sl _ _ _ _ _ _ ad p (hr _ _ hlt h) ha hl hm hn hc
  | sl0 ρ r off cap a hc => intro _ _ _ _; exact .sl0 _ _ _ _ a hc
  | nilchan => intro _ _ _ _; exact .nilchan _
  | chan ρ r p h => intro m ρ' hm hr; simp only [AV.lt, decide_eq_true_eq] at hm; exact .chan _ _ p (hr _ _ hm h)
  | yfn ρ r p h => intro m ρ' hm hr; simp only [AV.lt, decide_eq_true_eq] at hm; exact .yfn _ _ p (hr _ _ hm h)
  | rsl ρ r i j len p h hm' => intro m ρ' hm hr; simp only [AV.lt, decide_eq_true_eq] at hm; exact .rsl _ _ _ _ _ p (hr _ _ hm h) hm'
  | nilmap => intro _ _ _ _; exact .nilmap _
  | map ρ r p h => intro m ρ' hm hr; simp only [AV.lt, decide_eq_true_eq] at hm; exact .map _ _ p (hr _ _ hm h)
  | nilfunc => intro _ _ _ _; exact .nilfunc _
  | func ρ fn xs ys us vs hu hv h1 h2 ih1 ih2 =>
    intro m ρ' hm hr
    simp only [AV.lt, Bool.and_eq_true] at hm
    exact .func _ _ _ _ _ _ hu hv (fun k x y hx hy => ih1 k x y hx hy (ltL_get hm.1 hx) hr) (fun k x y hx hy => ih2 k x y hx hy (ltL_get hm.2 hx) hr)
  | nilif => intro _ _ _ _; exact .nilif _
  | iface ρ t x y h ih => intro m ρ' hm hr; simp only [AV.lt] at hm; exact .iface _ _ _ _ (ih hm hr)
  | agg ρ xs ys hs' h ih => intro m ρ' hm hr; simp only [AV.lt] at hm; exact .agg _ _ _ hs' (fun k x y hx hy => ih k x y hx hy (ltL_get hm hx) hr)
  | tuple ρ xs ys hs' h ih => intro m ρ' hm hr; simp only [AV.lt] at hm; exact .tuple _ _ _ hs' (fun k x y hx hy => ih k x y hx hy (ltL_get hm hx) hr)
theorem BlkR.cut {sn : Snap} {ρ ρ' : Env} {m : Nat} {p : Place} {b : Blk} {o : Obj} (h : BlkR sn ρ p b o) (hm : b.lt m) (hr : ∀ r p, r < m → ρ r = some p → ρ' r = some p) : BlkR sn ρ' p b o := by
  cases b with
  | dead => trivial
  | rows sz xs =>
    cases o <;> simp only [BlkR] at h ⊢
    obtain ⟨h1, h2, h3, h4, h5, h6⟩ := h
    refine ⟨h1, h2, h3, h4, fun i row hi j x hj => ?_, h6⟩
    obtain ⟨v, e1, e2, e3⟩ := h5 i row hi j x hj
    exact ⟨v, e1, e2, e3.cut (ltL_get (hm row (List.mem_of_getElem? hi)) hj) hr⟩
  | amap es =>
    cases o <;> simp only [BlkR] at h ⊢
    exact ⟨h.1, fun k x q hx hq => ⟨(h.2 k x q hx hq).1, (h.2 k x q hx hq).2.cut (hm x (List.mem_of_getElem? hx)) hr⟩⟩
  | raw q => exact h
  | lrec q n s =>
    cases o <;> simp only [BlkR] at h ⊢
    exact ⟨h.1, fun t => (h.2.1 t).cut (Ch.get_lt hm t) hr, h.2.2⟩
theorem Rel.take {sn : Snap} {ρ : Env} {H : Heap} {w : World} (h : Rel sn ρ H w) {m : Nat} (hb : ∀ b ∈ H.take m, b.lt m) : Rel sn (fun r => if r < m then ρ r else none) (H.take m) w := by
  have hr : ∀ r p, r < m → ρ r = some p → (fun r => if r < m then ρ r else none) r = some p := fun r p hm hp => by simp only [if_pos hm]; exact hp
  have key : ∀ (r : Nat) b, (H.take m)[r]? = some b → r < m ∧ H[r]? = some b := fun r b hb => by
    rw [List.getElem?_take] at hb
    split at hb
    · exact ⟨by assumption, hb⟩
    · cases hb
  refine ⟨h.gl, h.snap, fun r blk p h1 h2 h3 => ?_, fun r r' blk blk' p p' h1 h2 h1' h2' h3 h3' he => ?_, fun r hr' => ?_⟩
  · obtain ⟨k1, k2⟩ := key r blk h1
    simp only [if_pos k1] at h3
    obtain ⟨g1, obj, g2, g3⟩ := h.own r blk p k2 h2 h3
    exact ⟨g1, obj, g2, g3.cut (hb blk (List.mem_of_getElem? h1)) hr⟩
  · obtain ⟨k1, k2⟩ := key r blk h1
    obtain ⟨k1', k2'⟩ := key r' blk' h1'
    simp only [if_pos k1] at h3
    simp only [if_pos k1'] at h3'
    exact h.inj r r' blk blk' p p' k2 h2 k2' h2' h3 h3' he
  · by_cases e : r < m
    · simp only [if_pos e]
      refine h.top r ?_
      simp only [List.length_take] at hr'
      omega
    · simp only [if_neg e]
theorem owned_take {ρ : Env} {H : Heap} {m b : Nat} (h : Owned (fun r => if r < m then ρ r else none) (H.take m) b) : Owned ρ H b := by
  obtain ⟨r, blk, p, h1, h2, h3, h4⟩ := h
  rw [List.getElem?_take] at h1
  split at h1
  · rename_i hlt
    simp only [if_pos hlt] at h3
    exact ⟨r, blk, p, h1, h2, h3, h4⟩
  · cases h1
theorem ACalls.gc {P : Program} {f : FuncId} {args : List AV} {H : Heap} {Q : CQ} (m : Nat) (hm : H.length ≤ m)
    (h : ACalls P f args H (fun o H' => m ≤ H'.length ∧ (match o with | .ret v => v.lt m = true | .pan v => v.lt m = true) ∧ (∀ b ∈ H'.take m, b.lt m) ∧ Q o (H'.take m))) : ACalls P f args H Q := by
  intro sn ρ w vs hR hv
  refine (h sn ρ w vs hR hv).mono ?_
  rintro e w' ⟨sn', ρ', H', out, h1, h2, h3, h0, h4, h5, h6⟩
  have hr : ∀ r p, r < m → ρ' r = some p → (fun r => if r < m then ρ' r else none) r = some p := fun r p hm hp => by simp only [if_pos hm]; exact hp
  have hlt : ∀ r p, ρ r = some p → r < H.length := fun r p hp => by
    rcases Nat.lt_or_ge r H.length with h | h
    · exact h
    · rw [hR.top r h] at hp; cases hp
  refine ⟨sn', _, H'.take m, out, ?_, h2.take h5, ?_, h6⟩
  · cases out with
    | ret v =>
      cases e with
      | returned cv => exact (show VR sn' ρ' v cv from h1).cut h4 hr
      | _ => exact h1.elim
    | pan v =>
      cases e with
      | panicked ch =>
        obtain ⟨x, cv, e1, rfl, hx⟩ := h1.pan_inv
        cases e1
        exact hx.cut h4 hr
      | _ => exact h1.elim
  · refine ⟨fun r p hp => hr r p (Nat.lt_of_lt_of_le (hlt r p hp) hm) (h3.env r p hp), fun r hr' => ?_, by simp; omega, h3.snap, h3.below, h3.os, h3.tape, h3.output, h3.frame, h3.newsnap, fun b hb => h3.newown b (owned_take hb)⟩
    simp only [if_pos (Nat.lt_of_lt_of_le hr' hm)]
    exact h3.envlt r hr'
abbrev AV.pure (x : AV) : Bool := x.lt 0
theorem VR.pure {sn : Snap} {ρ ρ' : Env} {x : AV} {v : Value} (h : VR sn ρ x v) (hp : x.pure = true) : VR sn ρ' x v := h.cut hp (fun r p hr => absurd hr (Nat.not_lt_zero _))
def snapPut (sn : Snap) (b : Nat) (o : Obj) : Snap := fun x => if x = b then some o else sn x
theorem snapPut_mono {sn : Snap} {b : Nat} {o : Obj} (h : sn b = none) : ∀ x q, sn x = some q → snapPut sn b o x = some q := fun x q hq => by
  simp only [snapPut]
  split
  · rename_i e; subst e; rw [h] at hq; cases hq
  · exact hq
mutual
def AV.fz (r sz : Nat) (xs : List (List AV)) : AV → AV
  | .sl q off len cap => if q = r then .view false sz ((xs.drop off).take len) else .sl q off len cap
  | .func fn as bs => .func fn (fzL r sz xs as) (fzL r sz xs bs)
  | .iface t v => .iface t (AV.fz r sz xs v)
  | .agg cs => .agg (fzL r sz xs cs)
  | .tuple vs => .tuple (fzL r sz xs vs)
  | .ptr q i j => if q = r then .cptr ((xs[i]?).getD []) j else .ptr q i j
  | .map q => .map q | .chan q => .chan q | .yfn q => .yfn q | .rsl q i j n => .rsl q i j n
  | .any => .any | .bool b => .bool b | .int k n => .int k n | .str s => .str s | .nilptr => .nilptr
  | .cptr row j => .cptr row j | .view f z xs => .view f z xs | .nilchan => .nilchan | .nilmap => .nilmap | .nilfunc => .nilfunc | .nilif => .nilif
def fzL (r sz : Nat) (xs : List (List AV)) : List AV → List AV
  | [] => []
  | y :: ys => AV.fz r sz xs y :: fzL r sz xs ys
end
theorem fzL_map (r sz : Nat) (xs : List (List AV)) : ∀ (ys : List AV), fzL r sz xs ys = ys.map (AV.fz r sz xs)
  | [] => by simp [fzL]
  | y :: ys => by simp [fzL, fzL_map r sz xs ys]
theorem one_fz (r sz : Nat) (xs : List (List AV)) (x : AV) : (x.fz r sz xs).one = x.one := by
  cases x with
  | sl q off len cap =>
    simp only [AV.fz]
    by_cases h : q = r <;> simp [h, AV.one]
  | ptr q i j =>
    simp only [AV.fz]
    by_cases h : q = r <;> simp [h, AV.one]
  | _ => simp [AV.fz, AV.one]
def Ch.fz (r sz : Nat) (xs : List (List AV)) : Ch → Ch
  | .nil => .nil
  | .put s d v => .put (s.fz r sz xs) d (v.fz r sz xs)
theorem Ch.get_fz (r sz : Nat) (xs : List (List AV)) : ∀ (s : Ch) (t : Nat), (s.fz r sz xs).get t = (s.get t).fz r sz xs
  | .nil, t => by simp [Ch.fz, Ch.get, AV.fz]
  | .put s d v, t => by
    simp only [Ch.fz, Ch.get, Ch.get_fz r sz xs s]
    split <;> rfl
def Blk.fz (r sz : Nat) (xs : List (List AV)) : Blk → Blk
  | .dead => .dead
  | .rows z ys => .rows z (ys.map fun row => row.map (AV.fz r sz xs))
  | .amap es => .amap (es.map fun e => (e.1, e.2.fz r sz xs))
  | .raw q => .raw q
  | .lrec q n s => .lrec q n (s.fz r sz xs)
theorem fz_sl {sn : Snap} {ρ : Env} {H : Heap} {w : World} (hR : Rel sn ρ H w) {r sz : Nat} {xs : List (List AV)} (hr : H[r]? = some (.rows sz xs)) (hpu : ∀ row ∈ xs, ∀ x ∈ row, x.pure = true) {sn' : Snap} (hs : ∀ b o, sn b = some o → sn' b = some o)
    (hput : ∀ p, ρ r = some p → sn' p.b = w.heap[p.b]?) {off len : Nat} {cap : Option Nat} {v : Value} (hfit : off + len ≤ xs.length ∨ len = 0) (h : VR sn ρ (.sl r off len cap) v) (ρ' : Env) : VR sn' ρ' (.view false sz ((xs.drop off).take len)) v := by
  obtain ⟨a, c, rfl, hl, hm, hcc, hcase⟩ := h.sl_inv
  by_cases h0 : len = 0
  · subst h0
    have e : List.take 0 (List.drop off xs) = [] := by simp
    rw [e]
    exact .view _ false sz [] a 0 0 c (fun _ _ => undef) (by simp) hm (by simp) (by simp) (by simp) (by simp) (by simp) (by simp)
  · rcases hcase with e0 | ⟨p, hp, rfl, hn⟩
    · omega
    have hfit' : off + len ≤ xs.length := hfit.resolve_right h0
    have hlen : ((xs.drop off).take len).length = len := by simp; omega
    obtain ⟨cc, t', fr, h1, h2, h3, h4, h5, h6, h7, h8⟩ := hR.rows hr hp
    have hget : ∀ (i : Nat) row, ((xs.drop off).take len)[i]? = some row → i < len ∧ xs[off + i]? = some row := fun i row hi => by
      have := (List.getElem?_eq_some_iff.1 hi).1
      rw [hlen] at this
      rw [List.getElem?_take, if_pos this, List.getElem?_drop] at hi
      exact ⟨this, hi⟩
    have hsc : ∀ o, scell sn' p.b o = cc[o]? := fun o => by simp [scell, hput p hp, h1]
    have hcell : ∀ (i : Nat) (row : List AV), ((xs.drop off).take len)[i]? = some row → ∀ (j : Nat) x, row[j]? = some x → ∃ v, cc[off * p.sz + (i * sz + j)]? = some v ∧ x.one = true ∧ VR sn ρ x v := fun i row hi j x hj => by
      obtain ⟨v, e1, e2, e3⟩ := h7 _ _ (hget i row hi).2 j x hj
      refine ⟨v, ?_, e2, e3⟩
      rw [← e1, h3]
      congr 1
      rw [Nat.add_mul]
      omega
    have hv := VR.view (sn := sn') ρ' false sz ((xs.drop off).take len) (some ⟨p.b, off * p.sz, none⟩) p.b (off * p.sz) c (fun i j => (cc[off * p.sz + (i * sz + j)]?).getD undef) (by rw [hlen]; exact hl) hm (by simp) (fun _ => rfl) (fun i row hi => h6 _ _ (hget i row hi).2)
      (fun i row hi j x hj => by
        obtain ⟨v, e1, _, _⟩ := hcell i row hi j x hj
        rw [hsc, e1]; rfl)
      (fun i row hi j x hj => by
        obtain ⟨v, e1, e2, _⟩ := hcell i row hi j x hj
        exact e2)
      (fun i row hi j x hj => by
        obtain ⟨v, e1, _, e3⟩ := hcell i row hi j x hj
        rw [e1]
        have hmem := (hget i row hi).2
        exact (e3.mono hs (fun _ _ h => h)).pure (hpu row (List.mem_of_getElem? hmem) x (List.mem_of_getElem? hj)))
    rw [hlen] at hv
    exact hv
mutual
def AV.fzOk (r n : Nat) : AV → Prop
  | .sl q off len _ => q = r → off + len ≤ n
  | .func _ as bs => fzOkL r n as ∧ fzOkL r n bs
  | .iface _ v => AV.fzOk r n v
  | .agg cs => fzOkL r n cs
  | .tuple vs => fzOkL r n vs
  | .ptr _ _ _ | .rsl _ _ _ _ | .chan _ | .yfn _ | .nilchan | .map _ | .any | .bool _ | .int _ _ | .str _ | .nilptr | .cptr _ _ | .view _ _ _ | .nilmap | .nilfunc | .nilif => True
def fzOkL (r n : Nat) : List AV → Prop
  | [] => True
  | y :: ys => AV.fzOk r n y ∧ fzOkL r n ys
end
theorem fzOkL_get {r n : Nat} : ∀ {xs : List AV}, fzOkL r n xs → ∀ {k : Nat} {x : AV}, xs[k]? = some x → x.fzOk r n
  | [], _, k, x, h => by simp at h
  | y :: ys, hl, k, x, h => by
    simp only [fzOkL] at hl
    cases k with
    | zero => simp at h; subst h; exact hl.1
    | succ k => exact fzOkL_get hl.2 (by simpa using h)
def Ch.fzOk (r n : Nat) : Ch → Prop
  | .nil => True
  | .put s _ v => s.fzOk r n ∧ v.fzOk r n
theorem Ch.get_fzOk {r n : Nat} : ∀ {s : Ch}, s.fzOk r n → ∀ t, (s.get t).fzOk r n
  | .nil, _, t => by simp [Ch.get, AV.fzOk]
  | .put s d v, h, t => by
    simp only [Ch.fzOk] at h
    simp only [Ch.get]
    split
    · exact h.2
    · exact Ch.get_fzOk h.1 t
def Blk.fzOk (r n : Nat) : Blk → Prop
  | .dead => True
  | .rows _ ys => ∀ row ∈ ys, fzOkL r n row
  | .amap es => ∀ e ∈ es, e.2.fzOk r n
  | .raw _ => True
  | .lrec _ _ s => s.fzOk r n
theorem VR.fz {sn : Snap} {ρ0 : Env} {H : Heap} {w : World} (hR : Rel sn ρ0 H w) {r sz : Nat} {xs : List (List AV)} (hr : H[r]? = some (.rows sz xs)) (hpu : ∀ row ∈ xs, ∀ x ∈ row, x.pure = true) {sn' : Snap} (hs : ∀ b o, sn b = some o → sn' b = some o)
    (hput : ∀ p, ρ0 r = some p → sn' p.b = w.heap[p.b]?) {ρ : Env} {x : AV} {v : Value} (h : VR sn ρ x v) : ρ = ρ0 → x.fzOk r xs.length → VR sn' ρ (x.fz r sz xs) v := by
  induction h with
  | any => intro _ _; simp only [AV.fz]; exact .any _ _
  | bool => intro _ _; simp only [AV.fz]; exact .bool _ _
  | int => intro _ _; simp only [AV.fz]; exact .int _ _ _
  | str => intro _ _; simp only [AV.fz]; exact .str _ _
  | nilptr => intro _ _; simp only [AV.fz]; exact .nilptr _
  | ptr ρ q i j p h =>
    intro e _
    subst e
    simp only [AV.fz]
    by_cases hq : q = r
    · rw [if_pos hq]
      subst hq
      obtain ⟨cc, t', fr, h1, h2, h3, h4, h5, h6, h7, h8⟩ := hR.rows hr h
      have hsc : ∀ o, scell sn' p.b o = cc[o]? := fun o => by simp [scell, hput p h, h1]
      have key : ∀ (k : Nat) x, ((xs[i]?).getD [])[k]? = some x → ∃ v, cc[i * p.sz + k]? = some v ∧ x.one = true ∧ VR sn ρ x v ∧ x.pure = true := fun k x hx => by
        cases hrow : xs[i]? with
        | none => rw [hrow] at hx; simp at hx
        | some row =>
          rw [hrow] at hx
          obtain ⟨v, e1, e2, e3⟩ := h7 i row hrow k x (by simpa using hx)
          exact ⟨v, by rw [← e1, h3], e2, e3, hpu row (List.mem_of_getElem? hrow) x (List.mem_of_getElem? (by simpa using hx))⟩
      refine .cptr _ _ _ p.b (i * p.sz) (fun k => (cc[i * p.sz + k]?).getD undef) (fun k x hx => ?_) (fun k x hx => (key k x hx).choose_spec.2.1) (fun k x hx => ?_)
      · obtain ⟨v, e1, _⟩ := key k x hx
        rw [hsc, e1]; rfl
      · obtain ⟨v, e1, _, e3, e4⟩ := key k x hx
        rw [e1]
        exact (e3.mono hs (fun _ _ h => h)).pure e4
    · rw [if_neg hq]
      exact .ptr _ _ _ _ _ h
  | cptr ρ row j b o vs hc ho hr' ih => intro _ _; simp only [AV.fz]; exact (VR.cptr _ _ _ b o vs hc ho hr').mono hs (fun _ _ h => h)
  | view ρ full z ys a b o c vs hl hm hf ha hz hc ho hr' ih => intro _ _; simp only [AV.fz]; exact (VR.view _ _ _ _ a b o c vs hl hm hf ha hz hc ho hr').mono hs (fun _ _ h => h)
  | sl ρ q off len c cap ad p h ha hl hm hn hc =>
    intro e ok
    subst e
    simp only [AV.fz]
    by_cases hq : q = r
    · rw [if_pos hq]
      subst hq
      exact fz_sl hR hr hpu hs hput (.inl (ok rfl)) (.sl _ _ _ _ _ _ ad p h ha hl hm hn hc) _
    · rw [if_neg hq]
      exact .sl _ _ _ _ _ _ ad p h ha hl hm hn hc
  | sl0 ρ q off cap a hc =>
    intro e ok
    subst e
    simp only [AV.fz]
    by_cases hq : q = r
    · rw [if_pos hq]
      subst hq
      exact fz_sl hR hr hpu hs hput (.inr rfl) (.sl0 _ _ _ _ a hc) _
    · rw [if_neg hq]
      exact .sl0 _ _ _ _ a hc
  | nilchan => intro _ _; simp only [AV.fz]; exact .nilchan _
  | chan ρ q p h => intro _ _; simp only [AV.fz]; exact .chan _ _ p h
  | yfn ρ q p h => intro _ _; simp only [AV.fz]; exact .yfn _ _ p h
  | rsl ρ q i j len p h hm => intro _ _; simp only [AV.fz]; exact .rsl _ _ _ _ _ p h hm
  | nilmap => intro _ _; simp only [AV.fz]; exact .nilmap _
  | map ρ q p h => intro _ _; simp only [AV.fz]; exact .map _ _ p h
  | nilfunc => intro _ _; simp only [AV.fz]; exact .nilfunc _
  | func ρ fn as bs us vs hu hv h1 h2 ih1 ih2 =>
    intro e ok
    simp only [AV.fzOk] at ok
    simp only [AV.fz, fzL_map]
    refine .func _ _ _ _ _ _ (by simpa using hu) (by simpa using hv) (fun k x y hx hy => ?_) (fun k x y hx hy => ?_)
    · simp only [List.getElem?_map, Option.map_eq_some_iff] at hx
      obtain ⟨z, hz, rfl⟩ := hx
      exact ih1 k z y hz hy e (fzOkL_get ok.1 hz)
    · simp only [List.getElem?_map, Option.map_eq_some_iff] at hx
      obtain ⟨z, hz, rfl⟩ := hx
      exact ih2 k z y hz hy e (fzOkL_get ok.2 hz)
  | nilif => intro _ _; simp only [AV.fz]; exact .nilif _
  | iface ρ t x y h ih => intro e ok; simp only [AV.fzOk] at ok; simp only [AV.fz]; exact .iface _ _ _ _ (ih e ok)
  | agg ρ cs ys hs' h ih =>
    intro e ok
    simp only [AV.fzOk] at ok
    simp only [AV.fz, fzL_map]
    refine .agg _ _ _ (by simpa using hs') (fun k x y hx hy => ?_)
    simp only [List.getElem?_map, Option.map_eq_some_iff] at hx
    obtain ⟨z, hz, rfl⟩ := hx
    exact ih k z y hz hy e (fzOkL_get ok hz)
  | tuple ρ cs ys hs' h ih =>
    intro e ok
    simp only [AV.fzOk] at ok
    simp only [AV.fz, fzL_map]
    refine .tuple _ _ _ (by simpa using hs') (fun k x y hx hy => ?_)
    simp only [List.getElem?_map, Option.map_eq_some_iff] at hx
    obtain ⟨z, hz, rfl⟩ := hx
    exact ih k z y hz hy e (fzOkL_get ok hz)
theorem Rel.freeze {sn : Snap} {ρ : Env} {H : Heap} {w : World} (hR : Rel sn ρ H w) {r sz : Nat} {xs : List (List AV)} (hr : H[r]? = some (.rows sz xs)) (hpu : ∀ row ∈ xs, ∀ x ∈ row, x.pure = true)
    (hok : ∀ b ∈ H.set r .dead, b.fzOk r xs.length) : ∃ sn', Rel sn' ρ ((H.set r .dead).map (Blk.fz r sz xs)) w ∧ Ext sn ρ H w sn' ρ ((H.set r .dead).map (Blk.fz r sz xs)) w ∧
      ∀ x v, x.fzOk r xs.length → VR sn ρ x v → VR sn' ρ (x.fz r sz xs) v := by
  have hlive : (Blk.rows sz xs).live := trivial
  let sn' : Snap := match ρ r with
    | some p => match w.heap[p.b]? with
      | some o => snapPut sn p.b o
      | none => sn
    | none => sn
  have hsn : ∀ p, ρ r = some p → ∃ o, w.heap[p.b]? = some o ∧ sn p.b = none ∧ sn' = snapPut sn p.b o := fun p hp => by
    obtain ⟨g1, o, g2, _⟩ := hR.own r _ p hr hlive hp
    exact ⟨o, g2, g1, by simp only [sn', hp, g2]⟩
  have hsame : ρ r = none → sn' = sn := fun h => by simp only [sn', h]
  have hs : ∀ b o, sn b = some o → sn' b = some o := fun b o hb => by
    cases hp : ρ r with
    | none => rw [hsame hp]; exact hb
    | some p =>
      obtain ⟨o', _, g2, g3⟩ := hsn p hp
      rw [g3]
      exact snapPut_mono g2 b o hb
  have hput : ∀ p, ρ r = some p → sn' p.b = w.heap[p.b]? := fun p hp => by
    obtain ⟨o, g1, _, g3⟩ := hsn p hp
    rw [g3, g1]
    simp [snapPut]
  have hvr : ∀ x v, x.fzOk r xs.length → VR sn ρ x v → VR sn' ρ (x.fz r sz xs) v := fun x v ok h => VR.fz hR hr hpu hs hput h rfl ok
  have key : ∀ (q : Nat) blk, ((H.set r .dead).map (Blk.fz r sz xs))[q]? = some blk → blk.live → ∃ b, q ≠ r ∧ H[q]? = some b ∧ blk = b.fz r sz xs ∧ b.live ∧ b.fzOk r xs.length := fun q blk hq hl => by
    simp only [List.getElem?_map, Option.map_eq_some_iff] at hq
    obtain ⟨b, hb, rfl⟩ := hq
    have hm := List.mem_of_getElem? hb
    rcases getElem?_set_list hb with ⟨_, rfl⟩ | ⟨h1, h2⟩
    · exact hl.elim
    · refine ⟨b, h1, h2, rfl, ?_, hok b hm⟩
      cases b <;> first | exact hl | trivial
  have hsnb : ∀ q b p, q ≠ r → H[q]? = some b → b.live → ρ q = some p → sn' p.b = sn p.b := fun q b p hq hb hl hp => by
    cases hpr : ρ r with
    | none => rw [hsame hpr]
    | some p' =>
      obtain ⟨o, _, _, g3⟩ := hsn p' hpr
      rw [g3]
      simp only [snapPut]
      rw [if_neg]
      intro e
      exact hq (hR.inj q r b _ p p' hb hl hr hlive hp hpr e)
  refine ⟨sn', ⟨hR.gl.mono hs, fun b o hb => ?_, fun q blk p h1 h2 h3 => ?_, fun q q' blk blk' p p' h1 h2 h1' h2' h3 h3' he => ?_, fun q hq => hR.top q (by simpa using hq)⟩, ?_, hvr⟩
  · cases hp : ρ r with
    | none => rw [hsame hp] at hb; exact hR.snap b o hb
    | some p =>
      obtain ⟨o', g1, g2, g3⟩ := hsn p hp
      rw [g3] at hb
      simp only [snapPut] at hb
      split at hb
      · rename_i e; subst e; injection hb with hb; subst hb; exact g1
      · exact hR.snap b o hb
  · obtain ⟨b, k1, k2, rfl, k4, k5⟩ := key q blk h1 h2
    obtain ⟨g1, obj, g2, g3⟩ := hR.own q b p k2 k4 h3
    refine ⟨by rw [hsnb q b p k1 k2 k4 h3]; exact g1, obj, g2, ?_⟩
    cases b with
    | dead => trivial
    | rows z ys =>
      cases obj <;> simp only [BlkR, Blk.fz] at g3 ⊢
      obtain ⟨e1, e2, e3, e4, e5, e6⟩ := g3
      refine ⟨e1, e2, by simpa using e3, fun i row hi => ?_, fun i row hi j x hj => ?_, e6⟩
      · simp only [List.getElem?_map, Option.map_eq_some_iff] at hi
        obtain ⟨row0, hrow, rfl⟩ := hi
        simpa using e4 i row0 hrow
      · simp only [List.getElem?_map, Option.map_eq_some_iff] at hi
        obtain ⟨row0, hrow, rfl⟩ := hi
        simp only [List.getElem?_map, Option.map_eq_some_iff] at hj
        obtain ⟨y, hy, rfl⟩ := hj
        obtain ⟨v, f1, f2, f3⟩ := e5 i row0 hrow j y hy
        exact ⟨v, f1, by rw [one_fz]; exact f2, hvr y v (fzOkL_get (k5 row0 (List.mem_of_getElem? hrow)) hy) f3⟩
    | amap es =>
      cases obj <;> simp only [BlkR, Blk.fz] at g3 ⊢
      refine ⟨by simpa using g3.1, fun k x m hx hm => ?_⟩
      simp only [List.getElem?_map, Option.map_eq_some_iff] at hx
      obtain ⟨y, hy, rfl⟩ := hx
      exact ⟨(g3.2 k y m hy hm).1.mono hs (fun _ _ h => h), hvr y.2 m.val (k5 y (List.mem_of_getElem? hy)) (g3.2 k y m hy hm).2⟩
    | raw q => exact g3
    | lrec q n s =>
      cases obj <;> simp only [BlkR, Blk.fz] at g3 ⊢
      exact ⟨g3.1, fun t => by rw [Ch.get_fz]; exact hvr _ _ (Ch.get_fzOk k5 t) (g3.2.1 t), g3.2.2⟩
  · obtain ⟨b, k1, k2, rfl, k4, _⟩ := key q blk h1 h2
    obtain ⟨b', k1', k2', rfl, k4', _⟩ := key q' blk' h1' h2'
    exact hR.inj q q' b b' p p' k2 k4 k2' k4' h3 h3' he
  · refine ⟨fun _ _ h => h, fun _ _ => rfl, by simp, hs, Nat.le_refl _, rfl, rfl, rfl, fun _ _ _ => rfl, fun b hb => ?_, fun b ho => ?_⟩
    · cases hp : ρ r with
      | none => rw [hsame hp] at hb; exact absurd rfl hb
      | some p =>
        obtain ⟨o', g1, g2, g3⟩ := hsn p hp
        rw [g3] at hb
        simp only [snapPut] at hb
        split at hb
        · rename_i e; subst e; exact .inr ⟨r, _, p, hr, hlive, hp, rfl⟩
        · exact absurd rfl hb
    · obtain ⟨q, blk, p, h1, h2, h3, h4⟩ := ho
      obtain ⟨b', _, k2, rfl, k4, _⟩ := key q blk h1 h2
      exact .inr ⟨q, b', p, k2, k4, h3, h4⟩
def Out.fz (r sz : Nat) (xs : List (List AV)) : Out → Out
  | .ret v => .ret (v.fz r sz xs)
  | .pan v => .pan (v.fz r sz xs)
def Out.fzOk (r n : Nat) : Out → Prop
  | .ret v => v.fzOk r n
  | .pan v => v.fzOk r n
theorem ACalls.fz {P : Program} {f : FuncId} {args : List AV} {H : Heap} {Q : CQ} (r : Nat)
    (h : ACalls P f args H (fun o H' => ∃ sz xs, H'[r]? = some (.rows sz xs) ∧ (∀ row ∈ xs, ∀ x ∈ row, x.pure = true) ∧ o.fzOk r xs.length ∧ (∀ b ∈ H'.set r .dead, b.fzOk r xs.length) ∧ Q (o.fz r sz xs) ((H'.set r .dead).map (Blk.fz r sz xs)))) : ACalls P f args H Q := by
  intro sn ρ w vs hR hv
  refine (h sn ρ w vs hR hv).mono ?_
  rintro e w' ⟨sn', ρ', H', out, h1, h2, h3, sz, xs, h4, h5, h6, h7, h8⟩
  obtain ⟨sn2, g1, g2, g3⟩ := h2.freeze h4 h5 h7
  refine ⟨sn2, ρ', _, out.fz r sz xs, ?_, g1, h3.trans g2, h8⟩
  cases out with
  | ret v =>
    cases e with
    | returned cv => exact g3 _ _ h6 h1
    | _ => exact h1.elim
  | pan v =>
    cases e with
    | panicked ch =>
      obtain ⟨x, cv, e1, rfl, hx⟩ := h1.pan_inv
      cases e1
      exact g3 _ _ h6 hx
    | _ => exact h1.elim
end Go.AM
set_option linter.unusedVariables false
set_option linter.unusedSimpArgs false
namespace Go.AM
def Wk (B n : Nat) (s : Ch) (H : Heap) (s' : Ch) (H' : Heap) : Prop :=
  ∀ (sn : Snap) (ρ : Env) (w : World) (tmps : Array Value), B ≤ H.length → Rel sn ρ H w → SR sn ρ n s tmps → ∃ sn' ρ', Rel sn' ρ' H' w ∧ SR sn' ρ' n s' tmps ∧ ExtB B sn ρ H w sn' ρ' H' w
theorem Wk.refl (B n : Nat) (s : Ch) (H : Heap) : Wk B n s H s H := fun sn ρ w tmps hB hR hs => ⟨sn, ρ, hR, hs, .refl hB⟩
theorem Wk.trans {B n : Nat} {s s1 s2 : Ch} {H H1 H2 : Heap} (a : Wk B n s H s1 H1) (b : Wk B n s1 H1 s2 H2) : Wk B n s H s2 H2 := fun sn ρ w tmps hB hR hs => by
  obtain ⟨sn1, ρ1, h1, h2, h3⟩ := a sn ρ w tmps hB hR hs
  obtain ⟨sn2, ρ2, g1, g2, g3⟩ := b sn1 ρ1 w tmps h3.len h1 h2
  exact ⟨sn2, ρ2, g1, g2, h3.trans g3⟩
theorem SWp.wk {P : Program} {n : Nat} {D : Fx} {c : Code} {Q : XQ} {s s' : Ch} {H H' : Heap} (hw : Wk D.B n s H s' H') (h : SWp P n D c Q s' H') : SWp P n D c Q s H := by
  intro ro sn ρ w a hR hs hd hB
  obtain ⟨sn1, ρ1, h1, h2, h3⟩ := hw sn ρ w a.tmps hB hR hs
  refine wpIn_mono (h ro sn1 ρ1 w a h1 h2 hd h3.len) ?_
  rintro e a' w' ⟨sn', ρ', H'', s'', x, g1, g2, g3, g4, g5, g6⟩
  exact ⟨sn', ρ', H'', s'', x, g1, g2, g3, g4, h3.trans g5, g6⟩
def wkS : Ch → Ch → Prop
  | .nil, _ => True
  | .put s' t v, s => (v = .any ∨ s.get t = v) ∧ wkS s' s
theorem wkS_get {s : Ch} : ∀ {s' : Ch}, wkS s' s → ∀ t, s'.get t = .any ∨ s.get t = s'.get t
  | .nil, _, t => .inl rfl
  | .put s' d v, h, t => by
    simp only [wkS] at h
    simp only [Ch.get]
    by_cases e : t = d
    · subst e; rw [if_pos rfl]; exact h.1
    · rw [if_neg e]; exact wkS_get h.2 t
theorem Wk.slots {B n : Nat} {s s' : Ch} {H : Heap} (h : wkS s' s) : Wk B n s H s' H := fun sn ρ w tmps hB hR hs =>
  ⟨sn, ρ, hR, ⟨hs.size, fun t => by
    rcases wkS_get h t with e | e
    · rw [e]; exact .any _ _
    · rw [← e]; exact hs.get t⟩, .refl hB⟩
def chLt (m : Nat) : Ch → Prop
  | .nil => True
  | .put s _ v => v.lt m = true ∧ chLt m s
theorem chLt_get {m : Nat} : ∀ {s : Ch}, chLt m s → ∀ t, (s.get t).lt m = true
  | .nil, _, t => rfl
  | .put s d v, h, t => by
    simp only [Ch.get]
    split
    · exact h.1
    · exact chLt_get h.2 t
theorem Wk.take {B n m : Nat} {s : Ch} {H : Heap} (hm : B ≤ m) (hl : m ≤ H.length) (hs : chLt m s) (hb : ∀ b ∈ H.take m, b.lt m) : Wk B n s H s (H.take m) := fun sn ρ w tmps hB hR hsr => by
  have hr : ∀ r p, r < m → ρ r = some p → (fun r => if r < m then ρ r else none) r = some p := fun r p hm hp => by simp only [if_pos hm]; exact hp
  refine ⟨sn, _, hR.take hb, ⟨hsr.size, fun t => (hsr.get t).cut (chLt_get hs t) hr⟩, ⟨fun r hr => ?_, by simp; omega, fun _ _ h => h, Nat.le_refl _, rfl, rfl, rfl, fun _ _ _ => rfl, fun b hb => absurd rfl hb, fun b ho => .inr (owned_take ho)⟩⟩
  simp only [if_pos (Nat.lt_of_lt_of_le hr hm)]
theorem Wk.dead {B n : Nat} {s : Ch} {H : Heap} (r : Nat) : Wk B n s H s (H.set r .dead) := fun sn ρ w tmps hB hR hs => by
  obtain ⟨h1, h2⟩ := hR.drop r
  exact ⟨sn, ρ, h1, hs, h2.b hB⟩
def chOk (r n : Nat) : Ch → Prop
  | .nil => True
  | .put s _ v => v.fzOk r n ∧ chOk r n s
theorem chfz_get {r sz : Nat} {xs : List (List AV)} : ∀ {s : Ch} (t : Nat), (s.fz r sz xs).get t = (s.get t).fz r sz xs
  | .nil, t => by simp [Ch.fz, Ch.get, AV.fz]
  | .put s d v, t => by
    simp only [Ch.fz, Ch.get]
    split
    · rfl
    · exact chfz_get t
theorem chOk_get {r n : Nat} : ∀ {s : Ch}, chOk r n s → ∀ t, (s.get t).fzOk r n
  | .nil, _, t => by simp [Ch.get, AV.fzOk]
  | .put s d v, h, t => by
    simp only [Ch.get]
    split
    · exact h.1
    · exact chOk_get h.2 t
theorem Wk.fz {B n r sz : Nat} {xs : List (List AV)} {s : Ch} {H : Heap} (hr : H[r]? = some (.rows sz xs)) (hpu : ∀ row ∈ xs, ∀ x ∈ row, x.pure = true) (hok : ∀ b ∈ H.set r .dead, b.fzOk r xs.length) (hs : chOk r xs.length s) :
    Wk B n s H (s.fz r sz xs) ((H.set r .dead).map (Blk.fz r sz xs)) := fun sn ρ w tmps hB hR hsr => by
  obtain ⟨sn', h1, h2, h3⟩ := hR.freeze hr hpu hok
  exact ⟨sn', ρ, h1, ⟨hsr.size, fun t => by rw [chfz_get]; exact h3 _ _ (chOk_get hs t) (hsr.get t)⟩, h2.b hB⟩
theorem Wk.nil {B n t z sz : Nat} {s : Ch} {H : Heap} (h : s.get t = .view true z []) : Wk B n s H (s.put t (.sl H.length 0 0 none)) (H ++ [.rows sz []]) := fun sn ρ w tmps hB hR hs => by
  obtain ⟨h1, h2⟩ := hR.ghost (.rows sz [])
  refine ⟨sn, ρ, h1, ⟨hs.size, fun t' => ?_⟩, h2.b hB⟩
  simp only [Ch.get]
  split
  · rename_i e
    subst e
    have := hs.get t'
    rw [h] at this
    obtain ⟨a, b, o, c, vs, he, hl, hm, hf, _⟩ := this.view_inv
    rw [he, hf rfl]
    exact .sl0 _ _ _ _ _ (by simp)
  · exact hs.get t'
theorem rounds_step {P : Program} {n : Nat} {D : Fx} {c : Code} {Q : XQ} {k : Nat} {s : Ch} {H : Heap} (hok : codeOk n c = true) (h : cwp P n D c (thenX (rounds (SWp P n D c) Q k) Q) s H) : rounds (SWp P n D c) Q (k + 1) s H :=
  cwp_sound c hok _ _ _ h
theorem rounds_wk {P : Program} {n : Nat} {D : Fx} {c : Code} {Q : XQ} {k : Nat} {s s' : Ch} {H H' : Heap} (hw : Wk D.B n s H s' H') (h : rounds (SWp P n D c) Q k s' H') : rounds (SWp P n D c) Q k s H := by
  cases k with
  | zero => exact h.elim
  | succ k => exact SWp.wk hw h
mutual
theorem ren_pure {π : Nat → Nat} : ∀ {x : AV}, x.lt 0 = true → x.ren π = x
  | .ptr r i j, h => by simp [AV.lt] at h
  | .sl r off len cap, h => by simp [AV.lt] at h
  | .map r, h => by simp [AV.lt] at h
  | .chan r, h => by simp [AV.lt] at h
  | .yfn r, h => by simp [AV.lt] at h
  | .rsl r i j len, h => by simp [AV.lt] at h
  | .func fn a b, h => by
    simp only [AV.lt, Bool.and_eq_true] at h
    simp only [AV.ren, renL_pure h.1, renL_pure h.2]
  | .iface t v, h => by
    simp only [AV.lt] at h
    simp only [AV.ren, ren_pure h]
  | .agg cs, h => by
    simp only [AV.lt] at h
    simp only [AV.ren, renL_pure h]
  | .tuple cs, h => by
    simp only [AV.lt] at h
    simp only [AV.ren, renL_pure h]
  | .any, _ => rfl
  | .bool _, _ => rfl
  | .int _ _, _ => rfl
  | .str _, _ => rfl
  | .nilptr, _ => rfl
  | .cptr _ _, _ => rfl
  | .view _ _ _, _ => rfl
  | .nilmap, _ => rfl
  | .nilchan, _ => rfl
  | .nilfunc, _ => rfl
  | .nilif, _ => rfl
theorem renL_pure {π : Nat → Nat} : ∀ {xs : List AV}, ltL 0 xs = true → renL π xs = xs
  | [], _ => rfl
  | x :: xs, h => by
    simp only [ltL, Bool.and_eq_true] at h
    simp only [renL, ren_pure h.1, renL_pure h.2]
end
end Go.AM
set_option linter.unusedVariables false
set_option linter.unusedSimpArgs false
namespace Go.AM
theorem evs_congr {s s' : Ch} {xs : Array Operand} (h : ∀ x ∈ xs, cev s x = cev s' x) : evs s xs = evs s' xs :=
  List.map_congr_left fun x hx => h x (by simpa using hx)
theorem evParts_congr {s s' : Ch} {ps : Array (Nat × Operand)} (h : ∀ x ∈ ps.map (·.2), cev s x = cev s' x) : evParts s ps = evParts s' ps :=
  List.map_congr_left fun p hp => by
    rw [h p.2 (Array.mem_map.2 ⟨p, by simpa using hp, rfl⟩)]
theorem opt_congr {s s' : Ch} {x : Option Operand} (h : ∀ y, x = some y → cev s y = cev s' y) : x.map (cev s) = x.map (cev s') := by
  cases x with
  | none => rfl
  | some y => simp [h y rfl]
theorem aop_congr {P : Program} {s s' : Ch} {H : Heap} {op : Op} (h : ∀ x ∈ op.operands, cev s x = cev s' x) : aop P s H op = aop P s' H op := by
  cases op <;> simp only [Op.operands] at h <;> simp only [aop]
  case build t ps => rw [evParts_congr (ps := ps) (fun x hx => h x (by simpa using hx))]
  case buildSlice t n ps => rw [evParts_congr (ps := ps) (fun x hx => h x (by simpa using hx))]
  case makeFunc fn first captured => rw [evs_congr (xs := first) fun x hx => h x (by simp [hx]), evs_congr (xs := captured) fun x hx => h x (by simp [hx])]
  case call c =>
    obtain ⟨callee, args, ts⟩ := c
    cases callee with
    | value f =>
      simp only
      rw [evs_congr (xs := args) fun x hx => h x (by simp [Call.operands, hx])]
      cases f with
      | tmp t =>
        have := h (.tmp t) (by simp [Call.operands])
        simp only [cev] at this
        simp only [aCallO, this]
      | _ => rfl
    | builtin b => simp only; rw [evs_congr (xs := args) fun x hx => h x (by simp [Call.operands, hx])]
    | invoke r m => rfl
  case makeMap t r => rw [opt_congr (x := r) fun y e => h y (by simp [e])]
  case slice t x lo hi mx =>
    rw [h x (by simp), opt_congr (x := lo) fun y e => h y (by simp [e]), opt_congr (x := hi) fun y e => h y (by simp [e]), opt_congr (x := mx) fun y e => h y (by simp [e])]
  all_goals (first | rfl | (simp_all; done))
def opFree : Op → Bool
  | .move _ | .assign _ | .pick .. | .build .. | .nilCheck _ | .binOp .. | .unOp .. | .convert .. | .makeInterface .. | .makeFunc .. | .fieldAddr .. | .field .. | .index .. | .typeAssert .. | .extract .. => true
  | .call ⟨.value (.func g), _, _⟩ => !memO g ovl
  | .call ⟨.value _, _, _⟩ => true
  | .call ⟨.builtin .len, _, _⟩ | .call ⟨.builtin .max, _, _⟩ | .call ⟨.builtin .min, _, _⟩ => true
  | _ => false
theorem opFree_heap {P : Program} {s : Ch} {op : Op} (h : opFree op = true) (H H' : Heap) : aop P s H op = aop P s H' op := by
  cases op <;> first | rfl | (simp [opFree] at h; done) | skip
  case call c =>
    obtain ⟨callee, args, ts⟩ := c
    cases callee with
    | value f =>
      cases f with
      | func g =>
        have h' : memO g ovl = false := by simpa [opFree] using h
        simp only [aop, aCallO, h']
        rfl
      | _ => rfl
    | invoke r m => rfl
    | builtin b => cases b <;> first | rfl | simp [opFree] at h
def AR.yields (P : Program) (H : Heap) : AR → AV → Prop
  | .val u, v => u = v
  | .chk p r, v => p ∧ r.yields P H v
  | .call f args, v => Enters P f ∧ ACalls P f args H fun o H2 => o = .ret v ∧ H2 = H
  | _, _ => False
def AR.steps (P : Program) (H : Heap) (v : AV) (H' : Heap) : AR → Prop
  | .val u => u = v ∧ H = H'
  | .chk p r => p ∧ r.steps P H v H'
  | .alloc b f => f H.length = v ∧ H ++ [b] = H'
  | .upd H2 u => u = v ∧ H2 = H'
  | .call f args => Enters P f ∧ ACalls P f args H fun o H2 => o = .ret v ∧ H2 = H'
  | _ => False
theorem AR.yields_k {P : Program} {H : Heap} {v : AV} {X : AV → Heap → Prop} : ∀ {r : AR}, r.yields P H v → r.k P H (fun u H2 => u = v ∧ H2 = H) X
  | .val u, h => ⟨h, rfl⟩
  | .chk p r, h => ⟨h.1, AR.yields_k h.2⟩
  | .call f args, h => ⟨h.1, h.2.mono fun o H2 ⟨e1, e2⟩ => by subst e1; exact ⟨rfl, e2⟩⟩
theorem AR.steps_k {P : Program} {H H' : Heap} {v : AV} {X : AV → Heap → Prop} : ∀ {r : AR}, r.steps P H v H' → r.k P H (fun u H2 => u = v ∧ H2 = H') X
  | .val u, h => h
  | .chk p r, h => ⟨h.1, AR.steps_k h.2⟩
  | .alloc b f, h => h
  | .upd H2 u, h => h
  | .call f args, h => ⟨h.1, h.2.mono fun o H2 ⟨e1, e2⟩ => by subst e1; exact ⟨rfl, e2⟩⟩
def AR.nil0 : AR → Prop
  | .alloc b f => ∀ k, f k = .sl k 0 0 (some 0)
  | .chk p r => p ∧ r.nil0
  | _ => False
theorem AR.nil0_enters {P : Program} : ∀ {r : AR}, r.nil0 → r.enters P
  | .alloc _ _, _ => trivial
  | .chk p r, h => fun _ => AR.nil0_enters h.2
def opMat (P : Program) (s : Ch) (op : Op) (b : Blk) (len : Nat) : Prop := match op with
  | .call ⟨.builtin .append, args, ts⟩ => match ts.toList, evs s args with
    | [t, t2], [x, y] => aMat P t t2 x y b len
    | _, _ => False
  | .alloc t => ∃ i, tinfo P t = some i ∧ i.zero.all AV.one = true ∧ i.zero.length = i.size ∧ b = .rows i.size [i.zero]
  | _ => False
def mval (op : Op) (r len : Nat) : AV := match op with
  | .alloc _ => .ptr r 0 0
  | _ => .sl r 0 len none
def MatO (op : Op) (run : Result Next) (sn : Snap) (ρ : Env) (w : World) (b : Blk) (len : Nat) : Prop := ∃ cv w', run = .ok (.value cv) w' ∧
  ((∃ obj sz n, w'.heap = w.heap.push obj ∧ w'.os = w.os ∧ w'.tape = w.tape ∧ w'.output = w.output ∧ ∀ r, ρ r = none → BlkR sn (envPut ρ r ⟨w.heap.size, sz, n⟩) ⟨w.heap.size, sz, n⟩ b obj ∧ VR sn (envPut ρ r ⟨w.heap.size, sz, n⟩) (mval op r len) cv) ∨
   (w' = w ∧ ∀ r, VR sn ρ (mval op r len) cv))
theorem ofV_lt (m : Nat) (v : Value) : (AV.ofV v).lt m = true := by
  unfold AV.ofV
  split <;> rfl
theorem zero_lt {P : Program} {t : TypeId} {i : TI} (h : tinfo P t = some i) (m : Nat) : ∀ x ∈ i.zero, x.lt m = true := by
  obtain ⟨inf, d, z, h1, h2, h3, h4, h5, h6, h7⟩ := tinfo_ok h
  rw [h6]
  intro x hx
  rw [List.mem_map] at hx
  obtain ⟨v, _, rfl⟩ := hx
  exact ofV_lt m v
theorem opMat_congr {P : Program} {s s' : Ch} {op : Op} {b : Blk} {len : Nat} (h : ∀ x ∈ op.operands, cev s x = cev s' x) : opMat P s op b len = opMat P s' op b len := by
  cases op <;> try rfl
  case call c =>
    obtain ⟨callee, args, ts⟩ := c
    cases callee with
    | builtin bb =>
      cases bb <;> try rfl
      simp only [opMat]
      rw [evs_congr (xs := args) fun x hx => h x (by simp [Op.operands, Call.operands, hx])]
    | _ => rfl
theorem opMat_ok {P : Program} {sn : Snap} {ρ : Env} {n : Nat} {H : Heap} {w : World} {s : Ch} {a : Act} (hR : Rel sn ρ H w) (hs : SR sn ρ n s a.tmps) (o : Oper) {b : Blk} {len : Nat} (h : opMat P s o.op b len) : MatO o.op ((execOp a.eval o).run P w) sn ρ w b len := by
  obtain ⟨dst, op, type, pos, after, guard⟩ := o
  unfold opMat at h
  simp only at h
  split at h
  · rename_i args ts
    split at h
    · rename_i t t2 x y ht he
      obtain ⟨o, q, rfl, rfl, rfl⟩ := evs_two he
      have := arr_of ht
      subst this
      have := aMat_ok (P := P) hR (t := t) (t2 := t2) (ty := type) (cev_ok hR.gl hs o) (cev_ok hR.gl hs q) h
      have h2 : MatR ((execOp a.eval ⟨dst, .call ⟨.builtin .append, #[o, q], ([t, t2] : List TypeId).toArray⟩, type, pos, after, guard⟩).run P w) sn ρ w b len := by
        simpa [execOp, resolve, invoke, builtin] using this
      exact h2
    · exact h.elim
  · rename_i t
    obtain ⟨i, hi, h1, h2, rfl⟩ := h
    have h3 := aop_ok (P := P) hR hs ⟨dst, .alloc t, type, pos, after, guard⟩ (by simp only [aop, aAlloc, hi]; exact fun _ => trivial)
    simp only [aop, aAlloc, hi] at h3
    obtain ⟨obj, cv, w', sz, n, e1, e2, e3, e4, e5, e6, e7, e8⟩ := h3 ⟨h1, h2⟩
    refine ⟨cv, w', e1, .inl ⟨obj, sz, n, e2, e3, e4, e5, fun r hr => ⟨?_, ?_⟩⟩⟩
    · refine e7.cut (m := 0) (fun row hrow => ?_) (fun r p hr => absurd hr (Nat.not_lt_zero _))
      simp at hrow
      subst hrow
      exact ltL_all (zero_lt hi 0)
    · cases e8
      rename_i p hp
      rw [envPut_same] at hp
      injection hp with hp
      subst hp
      exact .ptr _ _ _ _ _ (envPut_same _ _ _)
  · exact h.elim
theorem AR.nil0_ok {P : Program} {run : Result Next} {sn : Snap} {ρ : Env} {H : Heap} {w : World} : ∀ {r : AR}, r.nil0 → r.ok P run sn ρ H w →
    ∃ obj cv w', run = .ok (.value cv) w' ∧ w'.heap = w.heap.push obj ∧ w'.os = w.os ∧ w'.tape = w.tape ∧ w'.output = w.output ∧ ∀ sz, VR sn ρ (.view true sz []) cv
  | .alloc b f, h, ho => by
    obtain ⟨obj, cv, w', sz, n, h1, h2, h3, h4, h5, h6, h7, h8⟩ := ho
    have hf : f H.length = .sl H.length 0 0 (some 0) := h _
    rw [hf] at h8
    obtain ⟨a, c, rfl, hl, hm, hc, _⟩ := h8.sl_inv
    have h0 : c = 0 := hc 0 rfl
    subst h0
    exact ⟨obj, _, w', h1, h2, h3, h4, h5, fun sz => .view _ true sz [] a 0 0 0 (fun _ _ => undef) (Nat.le_refl _) hm (fun _ => rfl) (by simp) (by simp) (by simp) (by simp) (by simp)⟩
  | .chk p r, h, ho => AR.nil0_ok h.2 (ho h.1)
theorem Rel.grow {sn : Snap} {ρ : Env} {H : Heap} {w w' : World} (h : Rel sn ρ H w) {obj : Obj} (hw : w'.heap = w.heap.push obj) : Rel sn ρ H w' := by
  have hold : ∀ b o, w.heap[b]? = some o → w'.heap[b]? = some o := fun b o hb => by
    rw [hw, Array.getElem?_push, if_neg (by have := (Array.getElem?_eq_some_iff.1 hb).1; omega)]; exact hb
  refine ⟨h.gl, fun b o hb => hold b o (h.snap b o hb), fun r blk p h1 h2 h3 => ?_, h.inj, h.top⟩
  obtain ⟨g1, o, g2, g3⟩ := h.own r blk p h1 h2 h3
  exact ⟨g1, o, hold _ _ g2, g3⟩
theorem push_frame {w w' : World} {obj : Obj} (hw : w'.heap = w.heap.push obj) : w.heap.size ≤ w'.heap.size ∧ ∀ b, b < w.heap.size → w'.heap[b]? = w.heap[b]? :=
  ⟨by rw [hw]; simp, fun b hb => by rw [hw, Array.getElem?_push, if_neg (by omega)]⟩
theorem Rel.fill {sn : Snap} {ρ : Env} {H : Heap} {w w' : World} (h : Rel sn ρ H w) {r : Nat} {b : Blk} {obj : Obj} {sz n : Nat} (hr : H[r]? = some b) (hn : ρ r = none) (hw : w'.heap = w.heap.push obj)
    (hR : BlkR sn (envPut ρ r ⟨w.heap.size, sz, n⟩) ⟨w.heap.size, sz, n⟩ b obj) : Rel sn (envPut ρ r ⟨w.heap.size, sz, n⟩) H w' := by
  have hold : ∀ b o, w.heap[b]? = some o → w'.heap[b]? = some o := fun b o hb => by
    rw [hw, Array.getElem?_push, if_neg (by have := (Array.getElem?_eq_some_iff.1 hb).1; omega)]; exact hb
  have hrl := (List.getElem?_eq_some_iff.1 hr).1
  have hnew : ∀ x q, envPut ρ r ⟨w.heap.size, sz, n⟩ x = some q → (x = r ∧ q = ⟨w.heap.size, sz, n⟩) ∨ (x ≠ r ∧ ρ x = some q) := fun x q hq => by
    simp only [envPut] at hq
    split at hq
    · rename_i e; exact .inl ⟨e, (Option.some.inj hq).symm⟩
    · rename_i e; exact .inr ⟨e, hq⟩
  have hlt : ∀ (x : Nat) blk p, H[x]? = some blk → blk.live → ρ x = some p → p.b < w.heap.size := fun x blk p h1 h2 h3 => by
    obtain ⟨_, o, g2, _⟩ := h.own x blk p h1 h2 h3
    exact (Array.getElem?_eq_some_iff.1 g2).1
  refine ⟨h.gl, fun b o hb => hold b o (h.snap b o hb), fun x blk p h1 h2 h3 => ?_, fun x x' blk blk' p p' h1 h2 h1' h2' h3 h3' he => ?_, fun x hx => ?_⟩
  · rcases hnew x p h3 with ⟨rfl, rfl⟩ | ⟨_, h3⟩
    · rw [hr] at h1
      cases h1
      refine ⟨?_, obj, by rw [hw]; simp, hR⟩
      cases hs : sn w.heap.size with
      | none => rfl
      | some o => have := h.snap _ _ hs; simp at this
    · obtain ⟨g1, o, g2, g3⟩ := h.own x blk p h1 h2 h3
      exact ⟨g1, o, hold _ _ g2, g3.mono (fun _ _ h => h) (envPut_mono hn)⟩
  · rcases hnew x p h3 with ⟨k1, rfl⟩ | ⟨_, k3⟩ <;> rcases hnew x' p' h3' with ⟨k1', rfl⟩ | ⟨_, k3'⟩
    · rw [k1, k1']
    · have := hlt x' blk' p' h1' h2' k3'; simp only at he; omega
    · have := hlt x blk p h1 h2 k3; simp only at he; omega
    · exact h.inj x x' blk blk' p p' h1 h2 h1' h2' k3 k3' he
  · simp only [envPut]
    rw [if_neg (by omega)]
    exact h.top x hx
inductive GK where
  | no
  | nl
  | mt (r : Nat) (b : Blk) (len : Nat)
def softOk (P : Program) (H : Heap) (g : GK) (v : AV) (s : Ch) (op : Op) : Prop := match g with
  | .no => (aop P s H op).yields P H v
  | .nl => (aop P s H op).nil0 ∧ ∃ sz, v = .view true sz []
  | .mt k b len => opMat P s op b len ∧ H[k]? = some b ∧ v = mval op k len
def edge (o : Oper) (i : Nat) : Prop := ∃ e ∈ o.after, Region.binds .any e = true ∧ e.on = i
def nodeOk (P : Program) (G : Nat → GK) (S : Nat → Ch) (V : Nat → AV) (HV : Nat → Heap) (lo hi : Nat → Nat) (isM : Nat → Bool) (i : Nat) (o : Oper) : Prop :=
  if isM i = true then (aop P (S i) (HV (lo i)) o.op).steps P (HV (lo i)) (V i) (HV (lo i + 1)) else ∀ q, lo i ≤ q → q ≤ hi i → softOk P (HV q) (G i) (V i) (S i) o.op
structure Drawn (P : Program) (n : Nat) (ops : Array Oper) (G : Nat → GK) (S : Nat → Ch) (V : Nat → AV) (HV : Nat → Heap) (lo hi : Nat → Nat) (isM : Nat → Bool) (M : Nat) : Prop where
  slots : ∀ (i : Nat) (o : Oper), ops[i]? = some o → S (i + 1) = (S i).put? o.dst (V i)
  dst : ∀ (i : Nat) (o : Oper), ops[i]? = some o → dstOk n o = true
  apart : ∀ (i j : Nat) (oi oj : Oper), i < j → ops[i]? = some oi → ops[j]? = some oj → edge oj i ∨ oi.apart ops oj = true
  top : ∀ (j : Nat) (oj : Oper), ops[j]? = some oj → ∀ i, edge oj i → i < j
  low : ∀ (i : Nat) (o : Oper), ops[i]? = some o → lo i = 0 ∨ ∃ j, edge o j ∧ lo i ≤ if isM j = true then lo j + 1 else lo j
  high : ∀ (i : Nat) (o : Oper), ops[i]? = some o → isM i = false → M ≤ hi i ∨ ∃ (j : Nat) (oj : Oper), i < j ∧ ops[j]? = some oj ∧ edge oj i ∧ if isM j = true then lo j ≤ hi i else hi j ≤ hi i
  inj : ∀ i j, isM i = true → isM j = true → lo i = lo j → i = j
  less : ∀ i, isM i = true → lo i < M ∧ i < ops.size
  surj : ∀ r, r < M → ∃ i, isM i = true ∧ lo i = r
  node : ∀ (i : Nat) (o : Oper), ops[i]? = some o → match o.guard with
    | none => nodeOk P G S V HV lo hi isM i o
    | some (j, want) => gk (gval ops (S i) j) want (nodeOk P G S V HV lo hi isM i o) (V i = .tuple [] ∧ (isM i = true → HV (lo i + 1) = HV (lo i)))
def Held (ops : Array Oper) (s0 : Ch) (V : Nat → AV) (L : Nat → Prop) (t : Nat) (x : AV) : Prop :=
  (∃ (j : Nat) (o : Oper), L j ∧ ops[j]? = some o ∧ o.dst = some t ∧ (∀ (k : Nat) (ok : Oper), L k → ops[k]? = some ok → ok.dst = some t → k ≤ j) ∧ x = V j) ∨
  ((∀ (k : Nat) (ok : Oper), L k → ops[k]? = some ok → ok.dst ≠ some t) ∧ x = s0.get t)
theorem Held.uniq {ops : Array Oper} {s0 : Ch} {V : Nat → AV} {L L' : Nat → Prop} {t : Nat} {x y : AV} (h : Held ops s0 V L t x) (h' : Held ops s0 V L' t y)
    (hL : ∀ (k : Nat) (ok : Oper), ops[k]? = some ok → ok.dst = some t → (L k ↔ L' k)) : x = y := by
  rcases h with ⟨j, o, h1, h2, h3, h4, rfl⟩ | ⟨h1, rfl⟩ <;> rcases h' with ⟨j', o', g1, g2, g3, g4, rfl⟩ | ⟨g1, rfl⟩
  · have a := h4 j' o' ((hL j' o' g2 g3).2 g1) g2 g3
    have b := g4 j o ((hL j o h2 h3).1 h1) h2 h3
    rw [Nat.le_antisymm b a]
  · exact absurd h3 (g1 j o ((hL j o h2 h3).1 h1) h2)
  · exact absurd g3 (h1 j' o' ((hL j' o' g2 g3).2 g1) g2)
  · rfl
theorem Held.put {ops : Array Oper} {s0 : Ch} {V : Nat → AV} {L : Nat → Prop} {s : Ch} (h : ∀ t, Held ops s0 V L t (s.get t)) {i : Nat} {o : Oper} (hi : ops[i]? = some o)
    (hl : ∀ (k : Nat) (ok : Oper) (d : Tmp), L k → ops[k]? = some ok → ok.dst = some d → o.dst = some d → k ≤ i) (t : Nat) : Held ops s0 V (fun k => L k ∨ k = i) t ((s.put? o.dst (V i)).get t) := by
  by_cases hd : o.dst = some t
  · refine .inl ⟨i, o, .inr rfl, hi, hd, fun k ok hk hko hkd => ?_, by simp [hd, Ch.put?, Ch.get]⟩
    rcases hk with hk | rfl
    · exact hl k ok t hk hko hkd hd
    · exact Nat.le_refl _
  · have hg : (s.put? o.dst (V i)).get t = s.get t := by
      unfold Ch.put?
      split
      · rename_i d hd'
        have : t ≠ d := fun e => hd (by rw [hd', e])
        simp [Ch.get, this]
      · rfl
    rw [hg]
    rcases h t with ⟨j, oj, h1, h2, h3, h4, h5⟩ | ⟨h1, h2⟩
    · refine .inl ⟨j, oj, .inl h1, h2, h3, fun k ok hk hko hkd => ?_, h5⟩
      rcases hk with hk | rfl
      · exact h4 k ok hk hko hkd
      · rw [hi] at hko; cases hko; exact absurd hkd hd
    · refine .inr ⟨fun k ok hk hko => ?_, h2⟩
      rcases hk with hk | rfl
      · exact h1 k ok hk hko
      · rw [hi] at hko; cases hko; exact hd
section
variable {P : Program} {n : Nat} {D : Fx} {ops : Array Oper} {G : Nat → GK} {S : Nat → Ch} {V : Nat → AV} {HV : Nat → Heap} {lo hi : Nat → Nat} {isM : Nat → Bool} {M : Nat}
theorem Drawn.lex (d : Drawn P n ops G S V HV lo hi isM M) : ∀ i, i ≤ ops.size → ∀ t, Held ops (S 0) V (fun k => k < i) t ((S i).get t) := by
  intro i
  induction i with
  | zero => intro _ t; exact .inr ⟨fun k ok hk => absurd hk (Nat.not_lt_zero _), rfl⟩
  | succ i ih =>
    intro hi t
    have hlt : i < ops.size := hi
    have ho : ops[i]? = some ops[i] := Array.getElem?_eq_getElem hlt
    rw [d.slots i _ ho]
    have := Held.put (ih (Nat.le_of_lt hlt)) ho (fun k ok d hk _ _ _ => Nat.le_of_lt hk) t
    rcases this with ⟨j, oj, h1, h2, h3, h4, h5⟩ | ⟨h1, h2⟩
    · exact .inl ⟨j, oj, by show j < i + 1; omega, h2, h3, fun k ok hk hko hkd => h4 k ok (by omega) hko hkd, h5⟩
    · exact .inr ⟨fun k ok hk hko => h1 k ok (by omega) hko, h2⟩
def Lst (listed : Array Bool) (k : Nat) : Prop := listed.getD k false = true
structure Inv (P : Program) (n : Nat) (D : Fx) (ops : Array Oper) (H0 : Heap) (G : Nat → GK) (S : Nat → Ch) (V : Nat → AV) (HV : Nat → Heap) (lo hi : Nat → Nat) (isM : Nat → Bool) (M : Nat) (sn0 : Snap) (ρ0 : Env) (w0 : World) (listed : Array Bool) (a : Act) (w : World) (q : Nat) (sn : Snap) (ρ : Env) (s : Ch) : Prop where
  size : listed.size = ops.size
  qM : q ≤ M
  mains : ∀ i, isM i = true → (Lst listed i ↔ lo i < q)
  lows : ∀ i, Lst listed i → lo i ≤ q
  closed : ∀ (i : Nat) (o : Oper), Lst listed i → ops[i]? = some o → ∀ j, edge o j → Lst listed j
  held : ∀ t, Held ops (S 0) V (Lst listed) t (s.get t)
  rel : Rel sn ρ (HV q) w
  sr : SR sn ρ n s a.tmps
  df : a.defers = D.D
  ext : ExtB D.B sn0 ρ0 H0 w0 sn ρ (HV q) w
  glen : (HV 0).length ≤ (HV q).length
  gh : ∀ i r b len, G i = .mt r b len → ¬ Lst listed i → ρ r = none
theorem ready_facts {listed : Array Bool} {i : Nat} (hs : listed.size = ops.size) (hi : i ∈ Region.ready .any ops listed) : ¬ Lst listed i ∧ ∃ o, ops[i]? = some o ∧ ∀ j, edge o j → Lst listed j := by
  obtain ⟨h1, o, h2, h3⟩ := mem_ready.1 hi
  refine ⟨fun h => ?_, o, h2, fun j ⟨e, he, hb, hj⟩ => hj ▸ h3 e he hb⟩
  have hlt : i < ops.size := (Array.getElem?_eq_some_iff.1 h2).1
  unfold Lst at h
  rw [Array.getD_eq_getD_getElem?, Array.getElem?_eq_getElem (by omega)] at h h1
  simp at h h1
  rw [h] at h1
  cases h1
theorem Drawn.hi_ok (d : Drawn P n ops G S V HV lo hi isM M) {listed : Array Bool} {q : Nat} (hq : q ≤ M) (hm : ∀ i, isM i = true → (Lst listed i ↔ lo i < q)) (hc : ∀ (i : Nat) (o : Oper), Lst listed i → ops[i]? = some o → ∀ j, edge o j → Lst listed j) :
    ∀ (m i : Nat) (o : Oper), ops.size - i ≤ m → ops[i]? = some o → isM i = false → ¬ Lst listed i → q ≤ hi i := by
  intro m
  induction m with
  | zero =>
    intro i o hm ho
    have := (Array.getElem?_eq_some_iff.1 ho).1
    omega
  | succ m ih =>
    intro i o hle ho hM hn
    have hlt := (Array.getElem?_eq_some_iff.1 ho).1
    rcases d.high i o ho hM with h | ⟨j, oj, hij, hoj, he, h⟩
    · omega
    · split at h
      · rename_i hjm
        by_cases hl : Lst listed j
        · exact absurd (hc j oj hl hoj i he) hn
        · have := mt (hm j hjm).2 hl
          omega
      · rename_i hjm
        by_cases hl : Lst listed j
        · exact absurd (hc j oj hl hoj i he) hn
        · have := ih j oj (by omega) hoj (by simpa using hjm) hl
          omega
theorem lst_set {listed : Array Bool} {i k : Nat} (hi : i < listed.size) : Lst (listed.setIfInBounds i true) k ↔ Lst listed k ∨ k = i := by
  unfold Lst
  by_cases h : i = k
  · subst h
    simp [hi]
  · rw [getD_set_ne false h]
    constructor
    · exact .inl
    · rintro (h' | rfl)
      · exact h'
      · exact absurd rfl h
theorem operands_looks {o : Oper} {t : Tmp} (h : Operand.tmp t ∈ o.op.operands) : t ∈ o.looksAt ops :=
  List.mem_append_left _ (List.mem_filterMap.2 ⟨.tmp t, by simpa using h, rfl⟩)
theorem guard_looks {o : Oper} {j : Nat} {want : Bool} {t : Tmp} (h : o.guard = some (j, want)) (ht : (ops[j]?).bind (·.dst) = some t) : t ∈ o.looksAt ops := by
  refine List.mem_append_right _ ?_
  simp [h, ht]
theorem Drawn.sees (d : Drawn P n ops G S V HV lo hi isM M) {listed : Array Bool} {s : Ch} (hs : listed.size = ops.size) (hc : ∀ (i : Nat) (o : Oper), Lst listed i → ops[i]? = some o → ∀ j, edge o j → Lst listed j)
    (hh : ∀ t, Held ops (S 0) V (Lst listed) t (s.get t)) {i : Nat} {o : Oper} (ho : ops[i]? = some o) (hn : ¬ Lst listed i) (ha : ∀ j, edge o j → Lst listed j) {t : Nat} (ht : t ∈ o.looksAt ops) : s.get t = (S i).get t := by
  have hlt := (Array.getElem?_eq_some_iff.1 ho).1
  refine (hh t).uniq (d.lex i (Nat.le_of_lt hlt) t) fun k ok hk hkd => ⟨fun hl => ?_, fun hl => ?_⟩
  · rcases Nat.lt_trichotomy k i with h | rfl | h
    · exact h
    · exact absurd hl hn
    · rcases d.apart i k o ok h ho hk with he | he
      · exact absurd (hc k ok hl hk i he) hn
      · exact absurd ht ((Oper.apart_spec he).2.2 t hkd)
  · have hl : k < i := hl
    rcases d.apart k i ok o hl hk ho with he | he
    · exact ha k he
    · exact absurd ht ((Oper.apart_spec he).1 t hkd)
theorem Drawn.last (d : Drawn P n ops G S V HV lo hi isM M) {listed : Array Bool} (hc : ∀ (i : Nat) (o : Oper), Lst listed i → ops[i]? = some o → ∀ j, edge o j → Lst listed j)
    {i : Nat} {o : Oper} (ho : ops[i]? = some o) (hn : ¬ Lst listed i) : ∀ (k : Nat) (ok : Oper) (t : Tmp), Lst listed k → ops[k]? = some ok → ok.dst = some t → o.dst = some t → k ≤ i := by
  intro k ok t hl hk hkd hod
  rcases Nat.lt_or_ge i k with h | h
  · rcases d.apart i k o ok h ho hk with he | he
    · exact absurd (hc k ok hl hk i he) hn
    · exact absurd hkd ((Oper.apart_spec he).2.1 t hod)
  · exact h
theorem cev_congr {s s' : Ch} {x : Operand} (h : ∀ t, x = .tmp t → s.get t = s'.get t) : cev s x = cev s' x := by
  cases x with
  | tmp t => exact h t rfl
  | _ => rfl
theorem drawn_any (d : Drawn P n ops G S V HV lo hi isM M) {Q : XQ} (hQ : Q .normal (S ops.size) (HV M)) {H0 : Heap} (hG : ∀ i r b len, G i = .mt r b len → r < (HV 0).length ∧ D.B ≤ r) (hGi : ∀ i j r b len b' len', G i = .mt r b len → G j = .mt r b' len' → i = j) {sn0 : Snap} {ρ0 : Env} {w0 : World} :
    ∀ (fuel : Nat) (listed : Array Bool) (a : Act) (w : World) (q : Nat) (sn : Snap) (ρ : Env) (s : Ch), Inv P n D ops H0 G S V HV lo hi isM M sn0 ρ0 w0 listed a w q sn ρ s → listed.toList.countP (·) + fuel = ops.size →
      wpAny P .any ops (fun e a' w' => ∃ sn' ρ' H' s' x, AXR sn' ρ' x e ∧ Rel sn' ρ' H' w' ∧ SR sn' ρ' n s' a'.tmps ∧ a'.defers = D.D ∧ ExtB D.B sn0 ρ0 H0 w0 sn' ρ' H' w' ∧ Q x s' H') fuel listed a w := by
  have fin : ∀ (listed : Array Bool) (a : Act) (w : World) (q : Nat) (sn : Snap) (ρ : Env) (s : Ch), Inv P n D ops H0 G S V HV lo hi isM M sn0 ρ0 w0 listed a w q sn ρ s → (∀ k, k < ops.size → Lst listed k) →
      ∃ sn' ρ' H' s' x, AXR sn' ρ' x .normal ∧ Rel sn' ρ' H' w ∧ SR sn' ρ' n s' a.tmps ∧ a.defers = D.D ∧ ExtB D.B sn0 ρ0 H0 w0 sn' ρ' H' w ∧ Q x s' H' := by
    intro listed a w q sn ρ s h hall
    have hq : q = M := by
      rcases Nat.lt_or_ge q M with hlt | hge
      · obtain ⟨i, hi, hr⟩ := d.surj q hlt
        have := (h.mains i hi).1 (hall i (d.less i hi).2)
        omega
      · exact Nat.le_antisymm h.qM hge
    subst hq
    refine ⟨sn, ρ, _, S ops.size, .normal, trivial, h.rel, ⟨h.sr.size, fun t => ?_⟩, h.df, h.ext, hQ⟩
    have : s.get t = (S ops.size).get t := (h.held t).uniq (d.lex _ (Nat.le_refl _) t) fun k ok hk _ => by
      have hlt := (Array.getElem?_eq_some_iff.1 hk).1
      exact ⟨fun _ => hlt, fun _ => hall k hlt⟩
    rw [← this]
    exact h.sr.get t
  have stuck : ∀ (listed : Array Bool), listed.size = ops.size → Region.ready .any ops listed = [] → ∀ k, k < ops.size → Lst listed k := by
    intro listed hs hr k
    induction k using Nat.strongRecOn with
    | _ k ih =>
      intro hk
      by_cases hl : Lst listed k
      · exact hl
      · have : k ∈ Region.ready .any ops listed := by
          rw [mem_ready]
          refine ⟨?_, ops[k], Array.getElem?_eq_getElem hk, fun e he hb => ?_⟩
          · unfold Lst at hl
            rw [Array.getD_eq_getD_getElem?, Array.getElem?_eq_getElem (by omega)] at hl ⊢
            simpa using hl
          · have := d.top k _ (Array.getElem?_eq_getElem hk) e.on ⟨e, he, hb, rfl⟩
            exact ih e.on this (by omega)
        rw [hr] at this
        cases this
  intro fuel
  induction fuel with
  | zero =>
    intro listed a w q sn ρ s h hf
    have hall : ∀ k, k < ops.size → Lst listed k := by
      intro k hk
      have h1 : listed.toList.countP (·) = listed.toList.length := by simp [h.size]; simpa using hf
      have h2 := List.countP_eq_length.1 h1
      unfold Lst
      have hk' : k < listed.size := by rw [h.size]; exact hk
      rw [Array.getD_eq_getD_getElem?, Array.getElem?_eq_getElem hk']
      exact h2 _ (by simp)
    refine ⟨?_, fin _ _ _ _ _ _ _ h hall⟩
    rw [List.eq_nil_iff_forall_not_mem]
    intro k hk
    have := ready_facts h.size hk
    obtain ⟨o, ho, _⟩ := this.2
    exact this.1 (hall k (Array.getElem?_eq_some_iff.1 ho).1)
  | succ fuel ih =>
    intro listed a w q sn ρ s h hf
    refine ⟨fun hr => fin _ _ _ _ _ _ _ h (stuck _ h.size hr), fun i hir => ?_⟩
    obtain ⟨hn, o, ho, ha⟩ := ready_facts h.size hir
    have hlt := (Array.getElem?_eq_some_iff.1 ho).1
    have hlt' : i < listed.size := by rw [h.size]; exact hlt
    have hsees : ∀ t, t ∈ o.looksAt ops → s.get t = (S i).get t := fun t => d.sees h.size h.closed h.held ho hn ha
    have hlo : lo i ≤ q := by
      rcases d.low i o ho with h0 | ⟨j, hj, h0⟩
      · omega
      · have hl := ha j hj
        split at h0
        · rename_i hjm
          have := (h.mains j hjm).1 hl
          omega
        · have := h.lows j hl
          omega
    have hcnt : (listed.setIfInBounds i true).toList.countP (·) + fuel = ops.size := by
      have hfalse : listed[i] = false := by
        unfold Lst at hn
        rw [Array.getD_eq_getD_getElem?, Array.getElem?_eq_getElem hlt'] at hn
        simpa using hn
      rw [Array.toList_setIfInBounds, List.countP_set (by simpa using hlt')]
      simp only [Array.getElem_toList, hfalse]
      simp only [Bool.false_eq_true, if_false, if_true, Nat.sub_zero]
      omega
    have hclosed : ∀ (k : Nat) (ok : Oper), Lst (listed.setIfInBounds i true) k → ops[k]? = some ok → ∀ j, edge ok j → Lst (listed.setIfInBounds i true) j := by
      intro k ok hk hok j hj
      rw [lst_set hlt'] at hk ⊢
      rcases hk with hk | rfl
      · exact .inl (h.closed k ok hk hok j hj)
      · rw [ho] at hok; cases hok; exact .inl (ha j hj)
    have hheld : ∀ t, Held ops (S 0) V (Lst (listed.setIfInBounds i true)) t ((s.put? o.dst (V i)).get t) := by
      intro t
      have := Held.put h.held ho (fun k ok t' hk hok hkd hod => d.last h.closed ho hn k ok t' hk hok hkd hod) t
      have he : (fun k => Lst listed k ∨ k = i) = Lst (listed.setIfInBounds i true) := by funext k; exact propext (lst_set hlt').symm
      rw [← he]; exact this
    have hlows : ∀ q', lo i ≤ q' → q ≤ q' → ∀ k, Lst (listed.setIfInBounds i true) k → lo k ≤ q' := by
      intro q' h1 h2 k hk
      rw [lst_set hlt'] at hk
      rcases hk with hk | rfl
      · exact Nat.le_trans (h.lows k hk) h2
      · exact h1
    have hgh : ∀ ρ' : Env, (∀ k r b len, G k = .mt r b len → ρ' r = ρ r) → ∀ k r b len, G k = .mt r b len → ¬ Lst (listed.setIfInBounds i true) k → ρ' r = none := fun ρ' he k r b len hk hl => by
      rw [he k r b len hk]
      exact h.gh k r b len hk (fun h1 => hl ((lst_set hlt').2 (.inl h1)))
    have hmain : isM i = true → lo i = q := by
      intro hm
      have := mt (h.mains i hm).2 hn
      omega
    have hdst := d.dst i o ho
    /- the operation, as in the text's order -/
    have same : aop P s (HV q) o.op = aop P (S i) (HV q) o.op := aop_congr fun x hx => cev_congr fun t ht => hsees t (operands_looks (by rw [← ht]; exact hx))
    have go : nodeOk P G S V HV lo hi isM i o → Oper.wp P o a w (wpAny P .any ops (fun e a' w' => ∃ sn' ρ' H' s' x, AXR sn' ρ' x e ∧ Rel sn' ρ' H' w' ∧ SR sn' ρ' n s' a'.tmps ∧ a'.defers = D.D ∧ ExtB D.B sn0 ρ0 H0 w0 sn' ρ' H' w' ∧ Q x s' H') fuel (listed.setIfInBounds i true))
        (fun e a' w' => ∃ sn' ρ' H' s' x, AXR sn' ρ' x e ∧ Rel sn' ρ' H' w' ∧ SR sn' ρ' n s' a'.tmps ∧ a'.defers = D.D ∧ ExtB D.B sn0 ρ0 H0 w0 sn' ρ' H' w' ∧ Q x s' H') := by
      intro hnode
      unfold nodeOk at hnode
      split at hnode
      · rename_i hm
        have hq := hmain hm
        rw [hq, ← same] at hnode
        have hk := AR.steps_k (X := fun _ _ => False) hnode
        refine upon_ok h.rel ?_ ?_ _ (aop_ok h.rel h.sr o (AR.enters_of_k hk)) hk
        · rintro sn' ρ' H' w' v cv q1 q2 hv ⟨rfl, rfl⟩
          refine ih _ _ _ (q + 1) sn' ρ' (s.put? o.dst (V i)) ⟨by simp [h.size], by have := (d.less i hm).1; omega, ?_, hlows _ (by omega) (by omega), hclosed, hheld, q1, (h.sr.mono q2.snap q2.env).put? hdst hv, by rw [put_defers]; exact h.df, h.ext.trans (q2.b h.ext.len), Nat.le_trans h.glen q2.len, hgh ρ' fun k r b len hk => q2.envlt r (by have := (hG k r b len hk).1; have := h.glen; omega)⟩ hcnt
          intro k hk
          rw [lst_set hlt', h.mains k hk]
          constructor
          · rintro (h1 | rfl) <;> omega
          · intro h1
            rcases Nat.lt_or_ge (lo k) q with h2 | h2
            · exact .inl h2
            · exact .inr (d.inj k i hk hm (by omega))
        · intro _ _ _ _ _ _ _ _ _ h'; exact h'.elim
      · rename_i hm
        have hm' : isM i = false := by simpa using hm
        have hhi := d.hi_ok h.qM h.mains h.closed _ i o (Nat.le_refl _) ho hm' hn
        have hy := hnode q hlo hhi
        have hmains : ∀ k, isM k = true → (Lst (listed.setIfInBounds i true) k ↔ lo k < q) := by
          intro k hk
          rw [lst_set hlt', h.mains k hk]
          constructor
          · rintro (h1 | h1)
            · exact h1
            · subst h1; exact absurd (by assumption) hm
          · exact .inl
        cases hg : G i with
        | no =>
          rw [hg] at hy
          have hy : (aop P (S i) (HV q) o.op).yields P (HV q) (V i) := hy
          rw [← same] at hy
          have hk := AR.yields_k (P := P) (H := HV q) (X := fun _ _ => False) hy
          refine upon_ok h.rel ?_ ?_ _ (aop_ok h.rel h.sr o (AR.enters_of_k hk)) hk
          · rintro sn' ρ' H' w' v cv q1 q2 hv ⟨rfl, rfl⟩
            exact ih _ _ _ q sn' ρ' (s.put? o.dst (V i)) ⟨by simp [h.size], h.qM, hmains, hlows _ hlo (Nat.le_refl _), hclosed, hheld, q1, (h.sr.mono q2.snap q2.env).put? hdst hv, by rw [put_defers]; exact h.df, h.ext.trans (q2.b h.ext.len), Nat.le_trans h.glen q2.len, hgh ρ' fun k r b len hk => q2.envlt r (by have := (hG k r b len hk).1; have := h.glen; omega)⟩ hcnt
          · intro _ _ _ _ _ _ _ _ _ h'; exact h'.elim
        | nl =>
          rw [hg] at hy
          obtain ⟨hy1, sz, hv⟩ := hy
          rw [← same] at hy1
          obtain ⟨obj, cv, w', e1, e2, e3, e4, e5, e6⟩ := AR.nil0_ok hy1 (aop_ok h.rel h.sr o (AR.nil0_enters hy1))
          unfold Oper.wp
          rw [e1]
          have hf := push_frame e2
          exact ih _ _ _ q sn ρ (s.put? o.dst (V i)) ⟨by simp [h.size], h.qM, hmains, hlows _ hlo (Nat.le_refl _), hclosed, hheld, h.rel.grow e2, h.sr.put? hdst (by rw [hv]; exact e6 sz), by rw [put_defers]; exact h.df,
            h.ext.trans ⟨fun _ _ => rfl, h.ext.len, fun _ _ h => h, hf.1, e3, e4, e5, fun b hb _ => hf.2 b hb, fun b hb => absurd rfl hb, fun b ho => .inr ho⟩, h.glen, hgh ρ fun _ _ _ _ _ => rfl⟩ hcnt
        | mt r b len =>
          rw [hg] at hy
          obtain ⟨hy1, hr, hv⟩ := hy
          have samem : opMat P s o.op b len = opMat P (S i) o.op b len := opMat_congr fun x hx => cev_congr fun t ht => hsees t (operands_looks (by rw [← ht]; exact hx))
          rw [← samem] at hy1
          have hnone := h.gh i r b len hg hn
          have hrB := (hG i r b len hg).2
          obtain ⟨cv, w', e1, hcase⟩ := opMat_ok h.rel h.sr o hy1
          unfold Oper.wp
          rw [e1]
          rcases hcase with ⟨obj, sz, m, e2, e3, e4, e5, e6⟩ | ⟨rfl, e6⟩
          · have hf := push_frame e2
            obtain ⟨e7, e8⟩ := e6 r hnone
            refine ih _ _ _ q sn (envPut ρ r ⟨w.heap.size, sz, m⟩) (s.put? o.dst (V i)) ⟨by simp [h.size], h.qM, hmains, hlows _ hlo (Nat.le_refl _), hclosed, hheld, h.rel.fill hr hnone e2 e7, (h.sr.mono (fun _ _ h => h) (envPut_mono hnone)).put? hdst (by rw [hv]; exact e8), by rw [put_defers]; exact h.df,
              h.ext.trans ⟨fun x hx => by simp only [envPut]; rw [if_neg (by omega)], h.ext.len, fun _ _ h => h, hf.1, e3, e4, e5, fun b hb _ => hf.2 b hb, fun b hb => absurd rfl hb, fun x ho => ?_⟩, h.glen, ?_⟩ hcnt
            · obtain ⟨k, blk, p, g1, g2, g3, g4⟩ := ho
              simp only [envPut] at g3
              split at g3
              · cases g3; exact .inl (by rw [← g4]; exact Nat.le_refl _)
              · exact .inr ⟨k, blk, p, g1, g2, g3, g4⟩
            · intro k r' b' len' hk hl
              have hne : r' ≠ r := fun e => hl ((lst_set hlt').2 (.inr (by subst e; exact hGi k i _ _ _ _ _ hk hg)))
              simp only [envPut]
              rw [if_neg hne]
              exact h.gh k r' b' len' hk (fun h1 => hl ((lst_set hlt').2 (.inl h1)))
          · exact ih _ _ _ q sn ρ (s.put? o.dst (V i)) ⟨by simp [h.size], h.qM, hmains, hlows _ hlo (Nat.le_refl _), hclosed, hheld, h.rel, h.sr.put? hdst (by rw [hv]; exact e6 r), by rw [put_defers]; exact h.df, h.ext, h.glen, hgh ρ fun _ _ _ _ _ => rfl⟩ hcnt
    have hnd := d.node i o ho
    unfold wpOp
    simp only [ho]
    cases hg : o.guard with
    | none =>
      simp only [hg] at hnd
      have hw : Region.wanted o (yielded ops a.tmps) = true := by simp [Region.wanted, hg]
      rw [if_pos hw]
      exact .inl (go hnd)
    | some gw =>
      obtain ⟨j, want⟩ := gw
      simp only [hg] at hnd
      unfold gk at hnd
      split at hnd
      · rename_i b hb
        have hb' : gval ops s j = .bool b := by
          rw [← hb]
          unfold gval
          cases hd : (ops[j]?).bind (·.dst) with
          | none => rfl
          | some t => exact hsees t (guard_looks hg hd)
        have hy := gval_ok h.sr hb'
        split at hnd
        · rename_i hbw
          have hw : Region.wanted o (yielded ops a.tmps) = true := by simp [Region.wanted, hg, hy, hbw]
          rw [if_pos hw]
          exact .inl (go hnd)
        · rename_i hbw
          have hw : ¬ Region.wanted o (yielded ops a.tmps) = true := by simp [Region.wanted, hg, hy, hbw]
          rw [if_neg hw]
          obtain ⟨hv, hh⟩ := hnd
          have hput : SR sn ρ n (s.put? o.dst (V i)) (a.put o.dst undef).tmps := h.sr.put? hdst (by rw [hv]; exact undef_ok _ _)
          by_cases hm : isM i = true
          · have hq := hmain hm
            have hh' := hh hm
            rw [hq] at hh'
            refine ih _ _ _ (q + 1) sn ρ (s.put? o.dst (V i)) ⟨by simp [h.size], by have := (d.less i hm).1; omega, ?_, hlows _ (by omega) (by omega), hclosed, hheld, by rw [hh']; exact h.rel, hput, by rw [put_defers]; exact h.df, by rw [hh']; exact h.ext, by rw [hh']; exact h.glen, hgh ρ fun _ _ _ _ _ => rfl⟩ hcnt
            intro k hk
            rw [lst_set hlt', h.mains k hk]
            constructor
            · rintro (h1 | rfl) <;> omega
            · intro h1
              rcases Nat.lt_or_ge (lo k) q with h2 | h2
              · exact .inl h2
              · exact .inr (d.inj k i hk hm (by omega))
          · have hm' : isM i = false := by simpa using hm
            refine ih _ _ _ q sn ρ (s.put? o.dst (V i)) ⟨by simp [h.size], h.qM, ?_, hlows _ hlo (Nat.le_refl _), hclosed, hheld, h.rel, hput, by rw [put_defers]; exact h.df, h.ext, h.glen, hgh ρ fun _ _ _ _ _ => rfl⟩ hcnt
            intro k hk
            rw [lst_set hlt', h.mains k hk]
            constructor
            · rintro (h1 | h1)
              · exact h1
              · subst h1; exact absurd hk hm
            · exact .inl
      · rename_i hb
        have hb' : gval ops s j = .tuple [] := by
          rw [← hb]
          unfold gval
          cases hd : (ops[j]?).bind (·.dst) with
          | none => rfl
          | some t => exact hsees t (guard_looks hg hd)
        have hw : ¬ Region.wanted o (yielded ops a.tmps) = true := by simp [Region.wanted, hg, gval_undef h.sr hb']
        rw [if_neg hw]
        obtain ⟨hv, hh⟩ := hnd
        have hput : SR sn ρ n (s.put? o.dst (V i)) (a.put o.dst undef).tmps := h.sr.put? hdst (by rw [hv]; exact undef_ok _ _)
        by_cases hm : isM i = true
        · have hq := hmain hm
          have hh' := hh hm
          rw [hq] at hh'
          refine ih _ _ _ (q + 1) sn ρ (s.put? o.dst (V i)) ⟨by simp [h.size], by have := (d.less i hm).1; omega, ?_, hlows _ (by omega) (by omega), hclosed, hheld, by rw [hh']; exact h.rel, hput, by rw [put_defers]; exact h.df, by rw [hh']; exact h.ext, by rw [hh']; exact h.glen, hgh ρ fun _ _ _ _ _ => rfl⟩ hcnt
          intro k hk
          rw [lst_set hlt', h.mains k hk]
          constructor
          · rintro (h1 | rfl) <;> omega
          · intro h1
            rcases Nat.lt_or_ge (lo k) q with h2 | h2
            · exact .inl h2
            · exact .inr (d.inj k i hk hm (by omega))
        · have hm' : isM i = false := by simpa using hm
          refine ih _ _ _ q sn ρ (s.put? o.dst (V i)) ⟨by simp [h.size], h.qM, ?_, hlows _ hlo (Nat.le_refl _), hclosed, hheld, h.rel, hput, by rw [put_defers]; exact h.df, h.ext, h.glen, hgh ρ fun _ _ _ _ _ => rfl⟩ hcnt
          intro k hk
          rw [lst_set hlt', h.mains k hk]
          constructor
          · rintro (h1 | h1)
            · exact h1
            · subst h1; exact absurd hk hm
          · exact .inl
      · exact hnd.elim
def SAny (P : Program) (n : Nat) (D : Fx) (ops : Array Oper) (Q : XQ) (s : Ch) (H : Heap) : Prop :=
  ∀ (sn : Snap) (ρ : Env) (w : World) (a : Act), Rel sn ρ H w → SR sn ρ n s a.tmps → a.defers = D.D → D.B ≤ H.length →
    wpAny P .any ops (fun e a' w' => ∃ sn' ρ' H' s' x, AXR sn' ρ' x e ∧ Rel sn' ρ' H' w' ∧ SR sn' ρ' n s' a'.tmps ∧ a'.defers = D.D ∧ ExtB D.B sn ρ H w sn' ρ' H' w' ∧ Q x s' H') ops.size (Array.replicate ops.size false) a { w with drawn := w.drawn + 1 }
theorem SAny.region {P : Program} {n : Nat} {D : Fx} {ops : Array Oper} {Q : XQ} {s : Ch} {H : Heap} {id : Nat} (hm : P.follows .mixedOrders = true) (hnd : ops.all noDef = true) (h : SAny P n D ops Q s H) : SWp P n D (.region id ops true) Q s H :=
  fun ro sn ρ w a hR hs hd hB => wpIn_region_any hm (wpAny_in hnd notOut _ _ _ _ (h sn ρ w a hR hs hd hB))
theorem drawn_sound (d : Drawn P n ops G S V HV lo hi isM M) {Q : XQ} (hQ : Q .normal (S ops.size) (HV M)) {H : Heap} (gs : List Blk) (h0 : HV 0 = H ++ gs) (hG : ∀ i r b len, G i = .mt r b len → r < (HV 0).length ∧ H.length ≤ r)
    (hGi : ∀ i j r b len b' len', G i = .mt r b len → G j = .mt r b' len' → i = j) : SAny P n D ops Q (S 0) H := by
  intro sn ρ w a hR hs hd hB
  have hno : ∀ k, ¬ Lst (Array.replicate ops.size false) k := by
    intro k h
    unfold Lst at h
    rw [Array.getD_eq_getD_getElem?, Array.getElem?_replicate] at h
    split at h <;> simp at h
  have hold : ∀ (r : Nat) blk p, (H ++ gs)[r]? = some blk → ρ r = some p → H[r]? = some blk := fun r blk p h1 h2 => by
    rcases Nat.lt_or_ge r H.length with hl | hl
    · rwa [List.getElem?_append_left hl] at h1
    · rw [hR.top r hl] at h2; cases h2
  refine drawn_any d hQ (fun i r b len h => ⟨(hG i r b len h).1, Nat.le_trans hB (hG i r b len h).2⟩) hGi _ _ _ _ 0 sn ρ (S 0) ⟨by simp, Nat.zero_le _, fun i hi => ⟨fun h => absurd h (hno i), fun h => absurd h (Nat.not_lt_zero _)⟩, fun i h => absurd h (hno i), fun i o h => absurd h (hno i), fun t => .inr ⟨fun k ok h => absurd h (hno k), rfl⟩,
    by
      rw [h0]
      exact ⟨hR.gl, hR.snap, fun r blk p h1 h2 h3 => hR.own r blk p (hold r blk p h1 h3) h2 h3, fun r r' blk blk' p p' h1 h2 h1' h2' h3 h3' he => hR.inj r r' blk blk' p p' (hold r blk p h1 h3) h2 (hold r' blk' p' h1' h3') h2' h3 h3' he, fun r hr => hR.top r (by rw [List.length_append] at hr; omega)⟩, hs, hd,
    ⟨fun _ _ => rfl, by rw [h0, List.length_append]; omega, fun _ _ h => h, Nat.le_refl _, rfl, rfl, rfl, fun _ _ _ => rfl, fun b hb => absurd rfl hb, fun b ho => by
      rw [h0] at ho
      obtain ⟨r, blk, p, h1, h2, h3, h4⟩ := ho
      exact .inr ⟨r, blk, p, hold r blk p h1 h3, h2, h3, h4⟩⟩, Nat.le_refl _, fun i r b len h _ => hR.top r (hG i r b len h).2⟩ ?_
  simp [List.countP_replicate]
end
end Go.AM
set_option linter.unusedVariables false
set_option linter.unusedSimpArgs false
namespace Go.AM
inductive Pl where
  | qu (lo hi : Nat)
  | rd (lo hi : Nat)
  | mn (r : Nat)
  | gn (z lo hi : Nat)
  | gm (r lo hi : Nat)
def Pl.lo : Pl → Nat
  | .qu l _ | .rd l _ | .gn _ l _ | .gm _ l _ => l
  | .mn r => r
def Pl.hi : Pl → Nat
  | .qu _ h | .rd _ h | .gn _ _ h | .gm _ _ h => h
  | .mn r => r
def Pl.isM : Pl → Bool
  | .mn _ => true
  | _ => false
def Pl.af (p : Pl) : Nat := if p.isM = true then p.lo + 1 else p.lo
def Pl.hl (p : Pl) : Nat := if p.isM = true then p.lo else p.hi
def cntM : List Pl → Nat
  | [] => 0
  | .mn _ :: l => cntM l + 1
  | _ :: l => cntM l
inductive Rd where
  | load (t : TypeId) (x : AV)
  | slice (t : TypeId) (x : AV) (lo hi mx : Option AV)
  | iaddr (t : TypeId) (x k : AV)
  | call (f : AV) (args : List AV)
  | callf (g : FuncId) (args : List AV)
  | blk (r : Nat) (b : Blk)
def Rd.run (P : Program) (H : Heap) : Rd → AR
  | .load t x => aLoad P t x H
  | .slice t x lo hi mx => aSlice P t x H lo hi mx
  | .iaddr t x k => aIndexAddr P t x k H
  | .call f args => aCallV f args
  | .callf g args => aCallG (memO g ovl) P g args H
  | .blk r b => .chk (H[r]? = some b) (.val (.tuple []))
def rdOf (s : Ch) : Op → Option Rd
  | .load t x => some (.load t (cev s x))
  | .slice t x lo hi mx => some (.slice t (cev s x) (lo.map (cev s)) (hi.map (cev s)) (mx.map (cev s)))
  | .indexAddr t x k => some (.iaddr t (cev s x) (cev s k))
  | .call ⟨.value (.tmp t), args, _⟩ => some (.call (s.get t) (evs s args))
  | .call ⟨.value (.func g), args, _⟩ => some (.callf g (evs s args))
  | _ => none
theorem rdOf_ok {P : Program} {s : Ch} {H : Heap} {op : Op} {r : Rd} (h : rdOf s op = some r) : aop P s H op = r.run P H := by
  cases op <;> simp only [rdOf] at h <;> first | (cases h <;> rfl) | skip
  rename_i c
  obtain ⟨callee, args, ts⟩ := c
  cases callee with
  | value f => cases f <;> cases h <;> rfl
  | _ => cases h
structure Pd where
  rd : Rd
  res : AV
  hi : Nat
def edgeB (o : Oper) (i : Nat) : Bool := o.after.any fun e => Region.binds .any e && e.on == i
theorem edgeB_iff {o : Oper} {i : Nat} : edgeB o i = true ↔ edge o i := by
  simp only [edgeB, edge, Array.any_eq_true', Bool.and_eq_true, beq_iff_eq]
def pAt (pl : List Pl) (i : Nat) : Pl := (pl[i]?).getD (.qu 0 0)
def nodePl (n : Nat) (ops : Array Oper) (pl : List Pl) (M : Nat) (j : Nat) (o : Oper) (p : Pl) : Bool :=
  dstOk n o && o.after.all (fun e => !Region.binds .any e || decide (e.on < j))
  && (List.range j).all (fun i => edgeB o i || match ops[i]? with | some oi => oi.apart ops o | none => true)
  && (p.lo == 0 || o.after.any fun e => Region.binds .any e && decide (p.lo ≤ (pAt pl e.on).af))
  && match p with
    | .mn r => r == cntM (pl.take j)
    | .qu lo hi => (opFree o.op || (lo == cntM (pl.take j) && hi == cntM (pl.take j))) && (decide (M ≤ hi) || (List.range ops.size).any fun k => decide (j < k) && match ops[k]? with | some ok => edgeB ok j && decide ((pAt pl k).hl ≤ hi) | none => false)
    | .rd lo hi => decide (hi ≤ M) && (decide (M ≤ hi) || (List.range ops.size).any fun k => decide (j < k) && match ops[k]? with | some ok => edgeB ok j && decide ((pAt pl k).hl ≤ hi) | none => false)
    | .gn _ lo hi => decide (hi ≤ M) && (decide (M ≤ hi) || (List.range ops.size).any fun k => decide (j < k) && match ops[k]? with | some ok => edgeB ok j && decide ((pAt pl k).hl ≤ hi) | none => false)
    | .gm _ lo hi => decide (hi ≤ M) && (decide (M ≤ hi) || (List.range ops.size).any fun k => decide (j < k) && match ops[k]? with | some ok => edgeB ok j && decide ((pAt pl k).hl ≤ hi) | none => false)
def planOk (n : Nat) (ops : Array Oper) (pl : List Pl) : Bool :=
  (ops.all noDef && pl.length == ops.size) && (List.range ops.size).all fun j => match ops[j]?, pl[j]? with
    | some o, some p => nodePl n ops pl (cntM pl) j o p
    | _, _ => false
theorem planOk_at {n : Nat} {ops : Array Oper} {pl : List Pl} (h : planOk n ops pl = true) {j : Nat} {o : Oper} (ho : ops[j]? = some o) : ∃ p, pl[j]? = some p ∧ nodePl n ops pl (cntM pl) j o p = true := by
  simp only [planOk, Bool.and_eq_true, List.all_eq_true, List.mem_range] at h
  have h1 := h.2 j (Array.getElem?_eq_some_iff.1 ho).1
  simp only [ho] at h1
  split at h1
  · rename_i o' p e1 e2
    cases e1
    exact ⟨p, e2, h1⟩
  · cases h1
theorem planOk_len {n : Nat} {ops : Array Oper} {pl : List Pl} (h : planOk n ops pl = true) : pl.length = ops.size := by
  simp only [planOk, Bool.and_eq_true, beq_iff_eq] at h
  exact h.1.2
theorem planOk_nodef {n : Nat} {ops : Array Oper} {pl : List Pl} (h : planOk n ops pl = true) : ops.all noDef = true := by
  simp only [planOk, Bool.and_eq_true] at h
  exact h.1.1
theorem cntM_append : ∀ (l l' : List Pl), cntM (l ++ l') = cntM l + cntM l'
  | [], l' => by simp [cntM]
  | .mn _ :: l, l' => by simp [cntM, cntM_append l l']; omega
  | .qu _ _ :: l, l' => by simp [cntM, cntM_append l l']
  | .rd _ _ :: l, l' => by simp [cntM, cntM_append l l']
  | .gn _ _ _ :: l, l' => by simp [cntM, cntM_append l l']
  | .gm _ _ _ :: l, l' => by simp [cntM, cntM_append l l']
theorem cntM_succ {pl : List Pl} {i : Nat} {p : Pl} (h : pl[i]? = some p) : cntM (pl.take (i + 1)) = cntM (pl.take i) + (if p.isM = true then 1 else 0) := by
  rw [List.take_add_one, h, cntM_append]
  cases p <;> simp [cntM, Pl.isM]
theorem cntM_mono {pl : List Pl} : ∀ {i j : Nat}, i ≤ j → cntM (pl.take i) ≤ cntM (pl.take j) := by
  intro i j h
  have : pl.take j = pl.take i ++ (pl.drop i).take (j - i) := by
    rw [← List.take_add]; congr 1; omega
  rw [this, cntM_append]
  omega
theorem cntM_surj {pl : List Pl} : ∀ (m r : Nat), r < cntM (pl.take m) → ∃ i p, pl[i]? = some p ∧ p.isM = true ∧ cntM (pl.take i) = r := by
  intro m
  induction m with
  | zero => intro r h; simp [cntM] at h
  | succ m ih =>
    intro r h
    cases hm : pl[m]? with
    | none =>
      rw [List.take_add_one, hm] at h
      exact ih r (by simpa using h)
    | some p =>
      rw [cntM_succ hm] at h
      by_cases hr : r < cntM (pl.take m)
      · exact ih r hr
      · split at h
        · rename_i hp
          exact ⟨m, p, hm, hp, by omega⟩
        · omega
def pOk (P : Program) (r : Nat) (H : Heap) : List Pd → Prop
  | [] => True
  | p :: ps => (if r < p.hi then (p.rd.run P H).yields P H p.res else True) ∧ pOk P r H ps
def eOk (P : Program) (r : Rd) (v : AV) : List Heap → Prop
  | [] => True
  | h :: hs => (r.run P h).yields P h v ∧ eOk P r v hs
theorem pOk_mem {P : Program} {r : Nat} {H : Heap} : ∀ {l : List Pd}, pOk P r H l → ∀ p ∈ l, r < p.hi → (p.rd.run P H).yields P H p.res
  | p :: l, h, p', hp, hr => by
    rcases List.mem_cons.1 hp with rfl | hp
    · have := h.1; rw [if_pos hr] at this; exact this
    · exact pOk_mem h.2 p' hp hr
theorem eOk_get {P : Program} {r : Rd} {v : AV} : ∀ {l : List Heap}, eOk P r v l → ∀ h ∈ l, (r.run P h).yields P h v
  | a :: l, h, h', hp => by
    rcases List.mem_cons.1 hp with rfl | hp
    · exact h.1
    · exact eOk_get h.2 h' hp
def dBody (P : Program) (op : Op) (p : Pl) (s : Ch) (H : Heap) (hs : List Heap) (pd : List Pd) (K : AV → Heap → List Heap → List Pd → Prop) : Prop := match p with
  | .qu _ _ => ∃ v, (∀ H2, (aop P s H op).yields P H2 v) ∧ K v H hs pd
  | .rd lo hi => match rdOf s op with
    | some r => ∃ v, (r.run P H).yields P H v ∧ eOk P r v (hs.drop lo) ∧ K v H hs (⟨r, v, hi⟩ :: pd)
    | none => False
  | .mn r => ∃ v H', (aop P s H op).steps P H v H' ∧ pOk P r H' pd ∧ K v H' (hs ++ [H]) pd
  | .gn z _ _ => (∀ H2, (aop P s H2 op).nil0) ∧ K (.view true z []) H hs pd
  | .gm r lo hi => ∃ b len, opMat P s op b len ∧ H[r]? = some b ∧ eOk P (.blk r b) (.tuple []) (hs.drop lo) ∧ K (mval op r len) H hs (⟨.blk r b, .tuple [], hi⟩ :: pd)
def dSkip (P : Program) (p : Pl) (H : Heap) (hs : List Heap) (pd : List Pd) (K : AV → Heap → List Heap → List Pd → Prop) : Prop := match p with
  | .mn r => pOk P r H pd ∧ K (.tuple []) H (hs ++ [H]) pd
  | _ => K (.tuple []) H hs pd
def dwp (P : Program) (ops : Array Oper) : List Oper → List Pl → XQ → Ch → Heap → List Heap → List Pd → Prop
  | [], _, Q, s, H, _, _ => Q .normal s H
  | _ :: _, [], _, _, _, _, _ => False
  | o :: rest, p :: pl, Q, s, H, hs, pd => match o.guard with
    | none => dBody P o.op p s H hs pd fun v H' hs' pd' => dwp P ops rest pl Q (s.put? o.dst v) H' hs' pd'
    | some (j, want) => gk (gval ops s j) want (dBody P o.op p s H hs pd fun v H' hs' pd' => dwp P ops rest pl Q (s.put? o.dst v) H' hs' pd')
        (dSkip P p H hs pd fun v H' hs' pd' => dwp P ops rest pl Q (s.put? o.dst v) H' hs' pd')
section
variable {P : Program} {n : Nat} {D : Fx} {ops : Array Oper} {pl : List Pl} {Q : XQ}
def lows (pl : List Pl) (i : Nat) : Nat := (pAt pl i).lo
def his (pl : List Pl) (i : Nat) : Nat := (pAt pl i).hi
def isMs (pl : List Pl) (i : Nat) : Bool := (pAt pl i).isM
def NodeG (P : Program) (ops : Array Oper) (G : Nat → GK) (S : Nat → Ch) (V : Nat → AV) (HV : Nat → Heap) (lo hi : Nat → Nat) (isM : Nat → Bool) (i : Nat) (o : Oper) : Prop := match o.guard with
    | none => nodeOk P G S V HV lo hi isM i o
    | some (j, want) => gk (gval ops (S i) j) want (nodeOk P G S V HV lo hi isM i o) (V i = .tuple [] ∧ (isM i = true → HV (lo i + 1) = HV (lo i)))
theorem pAt_eq {pl : List Pl} {i : Nat} {p : Pl} (h : pl[i]? = some p) : pAt pl i = p := by simp [pAt, h]
theorem NodeG.congr {G G' : Nat → GK} {S S' : Nat → Ch} {V V' : Nat → AV} {HV : Nat → Heap} {lo hi : Nat → Nat} {isM : Nat → Bool} {i : Nat} {o : Oper} (h : NodeG P ops G S V HV lo hi isM i o) (h1 : S' i = S i) (h2 : V' i = V i) (h3 : G' i = G i) : NodeG P ops G' S' V' HV lo hi isM i o := by
  unfold NodeG nodeOk at *
  rw [h1, h2, h3]
  exact h
structure Cert (P : Program) (ops : Array Oper) (pl : List Pl) (Q : XQ) (k : Nat) (s : Ch) (H : Heap) (hs : List Heap) (pd : List Pd) (S : Nat → Ch) (V : Nat → AV) (HV : Nat → Heap) (G : Nat → GK) : Prop where
  fs : S k = s
  fh : HV hs.length = H
  fhs : ∀ (j : Nat) (h : Heap), hs[j]? = some h → HV j = h
  node : ∀ (i : Nat) (o : Oper), k ≤ i → ops[i]? = some o → S (i + 1) = (S i).put? o.dst (V i) ∧ NodeG P ops G S V HV (lows pl) (his pl) (isMs pl) i o
  fpd : ∀ p ∈ pd, ∀ q, hs.length < q → q ≤ p.hi → (p.rd.run P (HV q)).yields P (HV q) p.res
  fq : Q .normal (S ops.size) (HV (cntM pl))
  gq : ∀ i r b len, k ≤ i → G i = .mt r b len → ∃ lo hi, pAt pl i = .gm r lo hi
theorem dwp_cert (hpl : planOk n ops pl = true) : ∀ (m k : Nat) (s : Ch) (H : Heap) (hs : List Heap) (pd : List Pd), k + m = ops.size → hs.length = cntM (pl.take k) → (∀ p ∈ pd, p.hi ≤ cntM pl) → dwp P ops (ops.toList.drop k) (pl.drop k) Q s H hs pd →
    ∃ S V HV G, Cert P ops pl Q k s H hs pd S V HV G := by
  intro m
  induction m with
  | zero =>
    intro k s H hs pd hk hr hpd h
    have hlen := planOk_len hpl
    have : ops.toList.drop k = [] := by simp; omega
    rw [this] at h
    have hc : cntM pl = hs.length := by rw [hr, List.take_of_length_le (by omega)]
    refine ⟨fun _ => s, fun _ => .any, fun j => (hs[j]?).getD H, fun _ => .no, rfl, by simp, fun j h hj => by simp [hj], fun i o hi ho => ?_, fun p hp q h1 h2 => ?_, ?_, fun i r b len _ h => by cases h⟩
    · have := (Array.getElem?_eq_some_iff.1 ho).1
      omega
    · have := hpd p hp
      omega
    · simpa [hc, dwp] using h
  | succ m ih =>
    intro k s H hs pd hk hr hpd h
    have hlt : k < ops.size := by omega
    have ho : ops[k]? = some ops[k] := Array.getElem?_eq_getElem hlt
    obtain ⟨p, hp, hnp⟩ := planOk_at hpl ho
    have hlen := planOk_len hpl
    have hcons : ops.toList.drop k = ops[k] :: ops.toList.drop (k + 1) := by
      rw [List.drop_eq_getElem_cons (by simpa using hlt)]; simp
    have hcons' : pl.drop k = p :: pl.drop (k + 1) := by
      rw [List.drop_eq_getElem_cons (by omega)]
      rw [List.getElem?_eq_getElem (by omega)] at hp
      cases hp
      rfl
    rw [hcons, hcons'] at h
    generalize hok : ops[k] = o at *
    have hpa := pAt_eq hp
    have hcs := cntM_succ hp
    have hne : ∀ i, k + 1 ≤ i → i ≠ k := fun i hi => by omega
    /- how a certificate of the rest becomes one of all -/
    have glue : ∀ (v : AV) (H' : Heap) (hs' : List Heap) (pd' : List Pd) (S : Nat → Ch) (V : Nat → AV) (HV : Nat → Heap) (G : Nat → GK) (g : GK), Cert P ops pl Q (k + 1) (s.put? o.dst v) H' hs' pd' S V HV G → (∀ r b len, g = .mt r b len → ∃ lo hi, pAt pl k = .gm r lo hi) →
        HV hs.length = H → (∀ j h, hs[j]? = some h → HV j = h) → (∀ p ∈ pd, ∀ q, hs.length < q → q ≤ p.hi → (p.rd.run P (HV q)).yields P (HV q) p.res) →
        NodeG P ops (fun i => if i = k then g else G i) (fun i => if i = k then s else S i) (fun i => if i = k then v else V i) HV (lows pl) (his pl) (isMs pl) k o → ∃ S V HV G, Cert P ops pl Q k s H hs pd S V HV G := by
      intro v H' hs' pd' S V HV G g c gg g1 g2 g3 g4
      refine ⟨fun i => if i = k then s else S i, fun i => if i = k then v else V i, HV, fun i => if i = k then g else G i, by simp, g1, g2, fun i oi hi hoi => ?_, g3, ?_, fun i r b len hi h => ?_⟩
      · by_cases e : i = k
        · subst e
          rw [ho] at hoi
          cases hoi
          refine ⟨?_, g4⟩
          simp [c.fs]
        · have := c.node i oi (by omega) hoi
          refine ⟨by simp [e, show i + 1 ≠ k by omega, this.1], this.2.congr (by simp [e]) (by simp [e]) (by simp [e])⟩
      · simp only [show ops.size ≠ k by omega, if_false]
        exact c.fq
      · by_cases e : i = k
        · subst e
          simp only [if_true] at h
          exact gg r b len h
        · simp only [e, if_false] at h
          exact c.gq i r b len (by omega) h
    have body : dBody P o.op p s H hs pd (fun v H' hs' pd' => dwp P ops (ops.toList.drop (k + 1)) (pl.drop (k + 1)) Q (s.put? o.dst v) H' hs' pd') →
        (∀ S V HV G, S k = s → nodeOk P G S V HV (lows pl) (his pl) (isMs pl) k o → NodeG P ops G S V HV (lows pl) (his pl) (isMs pl) k o) → ∃ S V HV G, Cert P ops pl Q k s H hs pd S V HV G := by
      intro hb hng
      simp only [nodePl, Bool.and_eq_true] at hnp
      cases p with
      | qu lo hi =>
        obtain ⟨v, hy, hK⟩ := hb
        obtain ⟨S, V, HV, G, c⟩ := ih (k + 1) _ _ _ _ (by omega) (by simpa [Pl.isM] using hr.trans (by rw [hcs]; simp [Pl.isM])) hpd hK
        refine glue v H hs pd S V HV G .no c nofun c.fh c.fhs c.fpd (hng _ _ _ _ (by simp) ?_)
        have e1 : isMs pl k = false := by simp [isMs, hpa, Pl.isM]
        unfold nodeOk
        rw [if_neg (by simp [e1])]
        intro q h1 h2
        simp only [if_true, softOk]
        have hf : (opFree o.op || (lo == cntM (pl.take k) && hi == cntM (pl.take k))) = true := by
          have := hnp.2; simp only [Bool.and_eq_true] at this; exact this.1
        simp only [Bool.or_eq_true, Bool.and_eq_true, beq_iff_eq] at hf
        rcases hf with hf | ⟨hf1, hf2⟩
        · rw [opFree_heap hf _ H]; exact hy _
        · have : q = hs.length := by
            simp only [lows, his, hpa, Pl.lo, Pl.hi] at h1 h2
            omega
          rw [this, c.fh]; exact hy _
      | rd lo hi =>
        simp only [dBody] at hb
        split at hb
        · rename_i rdd hop
          obtain ⟨v, hy, he, hK⟩ := hb
          have hh : hi ≤ cntM pl := by
            have := hnp.2; simp only [Bool.and_eq_true, decide_eq_true_eq] at this; exact this.1
          obtain ⟨S, V, HV, G, c⟩ := ih (k + 1) _ _ _ _ (by omega) (by simpa [Pl.isM] using hr.trans (by rw [hcs]; simp [Pl.isM])) (by
            intro p hp
            rcases List.mem_cons.1 hp with rfl | hp
            · exact hh
            · exact hpd p hp) hK
          refine glue v H hs _ S V HV G .no c nofun c.fh c.fhs (fun p hp => c.fpd p (List.mem_cons_of_mem _ hp)) (hng _ _ _ _ (by simp) ?_)
          have e1 : isMs pl k = false := by simp [isMs, hpa, Pl.isM]
          unfold nodeOk
          rw [if_neg (by simp [e1])]
          intro q h1 h2
          simp only [if_true, softOk, rdOf_ok hop]
          simp only [lows, his, hpa, Pl.lo, Pl.hi] at h1 h2
          rcases Nat.lt_trichotomy q hs.length with h3 | h3 | h3
          · have hq : hs[q]? = some hs[q] := List.getElem?_eq_getElem h3
            rw [c.fhs q _ hq]
            refine eOk_get he _ ?_
            have : (hs.drop lo)[q - lo]? = some hs[q] := by
              rw [List.getElem?_drop, show lo + (q - lo) = q by omega]; exact hq
            exact List.mem_of_getElem? this
          · rw [h3, c.fh]; exact hy
          · exact c.fpd _ (List.mem_cons_self ..) q h3 h2
        · exact hb.elim
      | gn z lo hi =>
        obtain ⟨hy, hK⟩ := hb
        obtain ⟨S, V, HV, G, c⟩ := ih (k + 1) _ _ _ _ (by omega) (by simpa [Pl.isM] using hr.trans (by rw [hcs]; simp [Pl.isM])) hpd hK
        refine glue _ H hs pd S V HV G .nl c nofun c.fh c.fhs c.fpd (hng _ _ _ _ (by simp) ?_)
        have e1 : isMs pl k = false := by simp [isMs, hpa, Pl.isM]
        unfold nodeOk
        rw [if_neg (by simp [e1])]
        intro q h1 h2
        simp only [if_true, softOk]
        exact ⟨hy _, z, rfl⟩
      | gm rr lo hi =>
        obtain ⟨b, len, hy, hbr, he, hK⟩ := hb
        have hh : hi ≤ cntM pl := by
          have := hnp.2; simp only [Bool.and_eq_true, decide_eq_true_eq] at this; exact this.1
        obtain ⟨S, V, HV, G, c⟩ := ih (k + 1) _ _ _ _ (by omega) (by simpa [Pl.isM] using hr.trans (by rw [hcs]; simp [Pl.isM])) (by
          intro p hp
          rcases List.mem_cons.1 hp with rfl | hp
          · exact hh
          · exact hpd p hp) hK
        refine glue _ H hs _ S V HV G (.mt rr b len) c (fun r b' l' h => by cases h; exact ⟨lo, hi, hpa⟩) c.fh c.fhs (fun p hp => c.fpd p (List.mem_cons_of_mem _ hp)) (hng _ _ _ _ (by simp) ?_)
        have e1 : isMs pl k = false := by simp [isMs, hpa, Pl.isM]
        unfold nodeOk
        rw [if_neg (by simp [e1])]
        intro q h1 h2
        simp only [if_true, softOk]
        refine ⟨hy, ?_, trivial⟩
        simp only [lows, his, hpa, Pl.lo, Pl.hi] at h1 h2
        rcases Nat.lt_trichotomy q hs.length with h3 | h3 | h3
        · have hq : hs[q]? = some hs[q] := List.getElem?_eq_getElem h3
          rw [c.fhs q _ hq]
          have := eOk_get he hs[q] (by
            have : (hs.drop lo)[q - lo]? = some hs[q] := by
              rw [List.getElem?_drop, show lo + (q - lo) = q by omega]; exact hq
            exact List.mem_of_getElem? this)
          exact this.1
        · rw [h3, c.fh]; exact hbr
        · exact (c.fpd _ (List.mem_cons_self ..) q h3 h2).1
      | mn r =>
        obtain ⟨v, H', hst, hpo, hK⟩ := hb
        have hrr : r = hs.length := by
          have := hnp.2
          simp only [beq_iff_eq] at this
          omega
        obtain ⟨S, V, HV, G, c⟩ := ih (k + 1) _ _ _ _ (by omega) (by rw [List.length_append, hcs, hr]; simp [Pl.isM]) hpd hK
        have hH : HV hs.length = H := c.fhs _ _ (by simp)
        have hH' : HV (hs.length + 1) = H' := by have := c.fh; simpa using this
        refine glue v H' _ pd S V HV G .no c nofun hH (fun j h hj => c.fhs j h (by
          rw [List.getElem?_append_left (List.getElem?_eq_some_iff.1 hj).1]; exact hj)) (fun p hp q h1 h2 => ?_) (hng _ _ _ _ (by simp) ?_)
        · rcases Nat.lt_or_ge (hs.length + 1) q with h3 | h3
          · exact c.fpd p hp q (by simpa using h3) h2
          · have : q = hs.length + 1 := by omega
            subst this
            rw [hH']
            exact pOk_mem hpo p hp (by omega)
        · have e1 : isMs pl k = true := by simp [isMs, hpa, Pl.isM]
          unfold nodeOk
          rw [if_pos e1]
          simp only [if_true, lows, hpa, Pl.lo, hrr, hH, hH']
          exact hst
    have skip : dSkip P p H hs pd (fun v H' hs' pd' => dwp P ops (ops.toList.drop (k + 1)) (pl.drop (k + 1)) Q (s.put? o.dst v) H' hs' pd') →
        (∀ S V HV G, S k = s → V k = .tuple [] → (isMs pl k = true → HV (lows pl k + 1) = HV (lows pl k)) → NodeG P ops G S V HV (lows pl) (his pl) (isMs pl) k o) → ∃ S V HV G, Cert P ops pl Q k s H hs pd S V HV G := by
      intro hb hng
      simp only [nodePl, Bool.and_eq_true] at hnp
      cases p with
      | qu lo hi =>
        obtain ⟨S, V, HV, G, c⟩ := ih (k + 1) _ _ _ _ (by omega) (by simpa [Pl.isM] using hr.trans (by rw [hcs]; simp [Pl.isM])) hpd hb
        refine glue (.tuple []) H hs pd S V HV G .no c nofun c.fh c.fhs c.fpd (hng _ _ _ _ (by simp) (by simp) ?_)
        intro e; simp [isMs, hpa, Pl.isM] at e
      | rd lo hi =>
        obtain ⟨S, V, HV, G, c⟩ := ih (k + 1) _ _ _ _ (by omega) (by simpa [Pl.isM] using hr.trans (by rw [hcs]; simp [Pl.isM])) hpd hb
        refine glue (.tuple []) H hs pd S V HV G .no c nofun c.fh c.fhs c.fpd (hng _ _ _ _ (by simp) (by simp) ?_)
        intro e; simp [isMs, hpa, Pl.isM] at e
      | gn z lo hi =>
        obtain ⟨S, V, HV, G, c⟩ := ih (k + 1) _ _ _ _ (by omega) (by simpa [Pl.isM] using hr.trans (by rw [hcs]; simp [Pl.isM])) hpd hb
        refine glue (.tuple []) H hs pd S V HV G .no c nofun c.fh c.fhs c.fpd (hng _ _ _ _ (by simp) (by simp) ?_)
        intro e; simp [isMs, hpa, Pl.isM] at e
      | gm rr lo hi =>
        obtain ⟨S, V, HV, G, c⟩ := ih (k + 1) _ _ _ _ (by omega) (by simpa [Pl.isM] using hr.trans (by rw [hcs]; simp [Pl.isM])) hpd hb
        refine glue (.tuple []) H hs pd S V HV G .no c nofun c.fh c.fhs c.fpd (hng _ _ _ _ (by simp) (by simp) ?_)
        intro e; simp [isMs, hpa, Pl.isM] at e
      | mn r =>
        obtain ⟨hpo, hK⟩ := hb
        have hrr : r = hs.length := by
          have := hnp.2
          simp only [beq_iff_eq] at this
          omega
        obtain ⟨S, V, HV, G, c⟩ := ih (k + 1) _ _ _ _ (by omega) (by rw [List.length_append, hcs, hr]; simp [Pl.isM]) hpd hK
        have hH : HV hs.length = H := c.fhs _ _ (by simp)
        have hH' : HV (hs.length + 1) = H := by have := c.fh; simpa using this
        refine glue (.tuple []) H _ pd S V HV G .no c nofun hH (fun j h hj => c.fhs j h (by
          rw [List.getElem?_append_left (List.getElem?_eq_some_iff.1 hj).1]; exact hj)) (fun p hp q h1 h2 => ?_) (hng _ _ _ _ (by simp) (by simp) ?_)
        · rcases Nat.lt_or_ge (hs.length + 1) q with h3 | h3
          · exact c.fpd p hp q (by simpa using h3) h2
          · have : q = hs.length + 1 := by omega
            subst this
            rw [hH']
            exact pOk_mem hpo p hp (by omega)
        · intro _
          simp only [lows, hpa, Pl.lo, hrr, hH, hH']
    simp only [dwp] at h
    split at h
    · rename_i hg
      exact body h fun S V HV G _ hn => by unfold NodeG; simp only [hg]; exact hn
    · rename_i j want hg
      unfold gk at h
      split at h
      · rename_i b hb
        split at h
        · rename_i hbw
          exact body h fun S V HV G hS hn => by unfold NodeG; simp only [hg, hS, hb, gk, hbw, if_true]; exact hn
        · rename_i hbw
          exact skip h fun S V HV G hS hV hn => by unfold NodeG; simp only [hg, hS, hb, gk, hbw, if_false]; exact ⟨hV, hn⟩
      · rename_i hb
        exact skip h fun S V HV G hS hV hn => by unfold NodeG; simp only [hg, hS, hb, gk]; exact ⟨hV, hn⟩
      · exact h.elim
def gmOk (lo hi : Nat) : List Pl → List Nat → Bool
  | [], _ => true
  | .gm r _ _ :: l, used => decide (lo ≤ r) && decide (r < hi) && !used.contains r && gmOk lo hi l (r :: used)
  | _ :: l, used => gmOk lo hi l used
theorem gmOk_get {lo hi : Nat} : ∀ {l : List Pl} {used : List Nat}, gmOk lo hi l used = true → ∀ {i r a b : Nat}, l[i]? = some (.gm r a b) → lo ≤ r ∧ r < hi ∧ r ∉ used
  | [], _, _, i, r, a, b, h => by simp at h
  | p :: l, used, hg, i, r, a, b, h => by
    have key : ∀ used', gmOk lo hi l used' = true → (∀ x ∈ used, x ∈ used') → ∀ i : Nat, l[i]? = some (Pl.gm r a b) → lo ≤ r ∧ r < hi ∧ r ∉ used := fun used' h1 h2 i h3 => by
      obtain ⟨a1, a2, a3⟩ := gmOk_get h1 h3
      exact ⟨a1, a2, fun hm => a3 (h2 _ hm)⟩
    cases i with
    | zero =>
      simp at h
      subst h
      simp only [gmOk, Bool.and_eq_true, decide_eq_true_eq, Bool.not_eq_true', List.contains_eq_mem, decide_eq_false_iff_not] at hg
      exact ⟨hg.1.1.1, hg.1.1.2, hg.1.2⟩
    | succ i =>
      simp only [List.getElem?_cons_succ] at h
      cases p with
      | gm r' a' b' =>
        simp only [gmOk, Bool.and_eq_true] at hg
        exact key _ hg.2 (fun x hx => List.mem_cons_of_mem _ hx) i h
      | _ => exact key used (by simpa [gmOk] using hg) (fun x hx => hx) i h
theorem gmOk_inj {lo hi : Nat} : ∀ {l : List Pl} {used : List Nat}, gmOk lo hi l used = true → ∀ {i j r a b a' b' : Nat}, l[i]? = some (.gm r a b) → l[j]? = some (.gm r a' b') → i = j
  | [], _, _, i, j, r, a, b, a', b', h, _ => by simp at h
  | p :: l, used, hg, i, j, r, a, b, a', b', h, h' => by
    cases i with
    | zero =>
      simp at h
      subst h
      simp only [gmOk, Bool.and_eq_true] at hg
      cases j with
      | zero => rfl
      | succ j =>
        simp only [List.getElem?_cons_succ] at h'
        exact absurd (List.mem_cons_self ..) (gmOk_get hg.2 h').2.2
    | succ i =>
      simp only [List.getElem?_cons_succ] at h
      cases j with
      | zero =>
        simp at h'
        subst h'
        simp only [gmOk, Bool.and_eq_true] at hg
        exact absurd (List.mem_cons_self ..) (gmOk_get hg.2 h).2.2
      | succ j =>
        simp only [List.getElem?_cons_succ] at h'
        cases p with
        | gm r' a'' b'' =>
          simp only [gmOk, Bool.and_eq_true] at hg
          exact congrArg _ (gmOk_inj hg.2 h h')
        | _ => exact congrArg _ (gmOk_inj (used := used) (by simpa [gmOk] using hg) h h')
theorem draw_anyG {s : Ch} {H : Heap} (gs : List Blk) (pl : List Pl) (hpl : planOk n ops pl = true) (hgm : gmOk H.length (H.length + gs.length) pl [] = true) (h : dwp P ops ops.toList pl Q s (H ++ gs) [] []) : SAny P n D ops Q s H := by
  obtain ⟨S, V, HV, G, c⟩ := dwp_cert hpl ops.size 0 s (H ++ gs) [] [] (by omega) (by simp [cntM]) (by simp) (by simpa using h)
  have hlen := planOk_len hpl
  have key : ∀ (i : Nat) (o : Oper), ops[i]? = some o → ∃ p, pl[i]? = some p ∧ pAt pl i = p ∧ nodePl n ops pl (cntM pl) i o p = true := fun i o ho => by
    obtain ⟨p, h1, h2⟩ := planOk_at hpl ho
    exact ⟨p, h1, pAt_eq h1, h2⟩
  have mn : ∀ i, isMs pl i = true → ∃ p, pl[i]? = some p ∧ i < ops.size ∧ p.isM = true ∧ lows pl i = cntM (pl.take i) := by
    intro i hi
    cases hp : pl[i]? with
    | none => simp [isMs, pAt, hp, Pl.isM] at hi
    | some p =>
      have hlt : i < ops.size := by rw [← hlen]; exact (List.getElem?_eq_some_iff.1 hp).1
      obtain ⟨p', h1, h2, h3⟩ := key i _ (Array.getElem?_eq_getElem hlt)
      rw [hp] at h1
      cases h1
      simp only [isMs, h2] at hi
      refine ⟨p, rfl, hlt, hi, ?_⟩
      cases p with
      | mn r =>
        simp only [nodePl, Bool.and_eq_true, beq_iff_eq] at h3
        simp [lows, h2, Pl.lo, h3.2]
      | qu => cases hi
      | rd => cases hi
      | gn => cases hi
      | gm => cases hi
  have d : Drawn P n ops G S V HV (lows pl) (his pl) (isMs pl) (cntM pl) := by
    refine ⟨fun i o ho => (c.node i o (Nat.zero_le _) ho).1, fun i o ho => ?_, fun i j oi oj hij hoi hoj => ?_, fun j oj hoj i he => ?_, fun i o ho => ?_, fun i o ho hM => ?_, fun i j hi hj hij => ?_, fun i hi => ?_, fun r hr => ?_, fun i o ho => (c.node i o (Nat.zero_le _) ho).2⟩
    · obtain ⟨p, _, _, h3⟩ := key i o ho
      simp only [nodePl, Bool.and_eq_true] at h3
      exact h3.1.1.1.1
    · obtain ⟨p, _, _, h3⟩ := key j oj hoj
      simp only [nodePl, Bool.and_eq_true, List.all_eq_true, List.mem_range] at h3
      have := h3.1.1.2 i hij
      simp only [hoi, Bool.or_eq_true] at this
      exact this.imp edgeB_iff.1 (fun h => h)
    · obtain ⟨p, _, _, h3⟩ := key j oj hoj
      simp only [nodePl, Bool.and_eq_true] at h3
      obtain ⟨e, he, hb, rfl⟩ := he
      have := Array.all_eq_true_iff_forall_mem.1 h3.1.1.1.2 e he
      simpa [hb] using this
    · obtain ⟨p, _, h2, h3⟩ := key i o ho
      simp only [nodePl, Bool.and_eq_true, Bool.or_eq_true, beq_iff_eq] at h3
      rcases h3.1.2 with h | h
      · left; simp [lows, h2, h]
      · right
        obtain ⟨e, he, hb⟩ := Array.any_eq_true'.1 h
        simp only [Bool.and_eq_true, decide_eq_true_eq] at hb
        refine ⟨e.on, ⟨e, he, hb.1, rfl⟩, ?_⟩
        have h5 := hb.2
        unfold Pl.af at h5
        unfold lows isMs
        rw [h2]
        split <;> rename_i hm' <;> simp only [hm'] at h5 <;> simpa using h5
    · obtain ⟨p, _, h2, h3⟩ := key i o ho
      have hih : his pl i = p.hi := by simp [his, h2]
      have hh : (decide (cntM pl ≤ p.hi) || (List.range ops.size).any fun k => decide (i < k) && match ops[k]? with | some ok => edgeB ok i && decide ((pAt pl k).hl ≤ p.hi) | none => false) = true := by
        simp only [isMs, h2] at hM
        cases p with
        | qu lo hi => simp only [nodePl, Bool.and_eq_true] at h3; exact h3.2.2
        | rd lo hi => simp only [nodePl, Bool.and_eq_true] at h3; exact h3.2.2
        | gn z lo hi => simp only [nodePl, Bool.and_eq_true] at h3; exact h3.2.2
        | gm r lo hi => simp only [nodePl, Bool.and_eq_true] at h3; exact h3.2.2
        | mn r => cases hM
      simp only [Bool.or_eq_true, decide_eq_true_eq, List.any_eq_true, List.mem_range, Bool.and_eq_true] at hh
      rw [hih]
      rcases hh with hh | ⟨k, hk, hik, hh⟩
      · exact .inl hh
      · rw [Array.getElem?_eq_getElem hk] at hh
        simp only [Bool.and_eq_true, decide_eq_true_eq] at hh
        refine .inr ⟨k, ops[k], hik, Array.getElem?_eq_getElem hk, edgeB_iff.1 hh.1, ?_⟩
        have := hh.2
        unfold Pl.hl at this
        unfold isMs lows his
        split <;> rename_i hm' <;> simp only [hm'] at this <;> simpa using this
    · obtain ⟨p, h1, h2, h3, h4⟩ := mn i hi
      obtain ⟨p', g1, g2, g3, g4⟩ := mn j hj
      have a := cntM_succ h1
      have b := cntM_succ g1
      rw [if_pos h3] at a
      rw [if_pos g3] at b
      rcases Nat.lt_trichotomy i j with h | h | h
      · have := cntM_mono (pl := pl) (show i + 1 ≤ j from h); omega
      · exact h
      · have := cntM_mono (pl := pl) (show j + 1 ≤ i from h); omega
    · obtain ⟨p, h1, h2, h3, h4⟩ := mn i hi
      refine ⟨?_, h2⟩
      have a := cntM_succ h1
      rw [if_pos h3] at a
      have := cntM_mono (pl := pl) (show i + 1 ≤ pl.length by omega)
      rw [List.take_length] at this
      omega
    · obtain ⟨i, p, h1, h2, h3⟩ := cntM_surj (pl := pl) pl.length r (by rw [List.take_length]; exact hr)
      have : isMs pl i = true := by simp [isMs, pAt_eq h1, h2]
      obtain ⟨p', g1, g2, g3, g4⟩ := mn i this
      exact ⟨i, this, by omega⟩
  have hH : HV 0 = H ++ gs := c.fh
  have hat : ∀ i r b len, G i = .mt r b len → ∃ a e, pl[i]? = some (.gm r a e) := fun i r b len hi => by
    obtain ⟨a, e, he⟩ := c.gq i r b len (Nat.zero_le _) hi
    refine ⟨a, e, ?_⟩
    unfold pAt at he
    cases hp : pl[i]? with
    | none => rw [hp] at he; cases he
    | some p => rw [hp] at he; simp at he; rw [he]
  have := drawn_sound (D := D) d (Q := Q) c.fq gs hH (fun i r b len hi => by
    obtain ⟨a, e, he⟩ := hat i r b len hi
    obtain ⟨k1, k2, _⟩ := gmOk_get hgm he
    rw [hH, List.length_append]
    exact ⟨k2, k1⟩) (fun i j r b len b' len' hi hj => by
    obtain ⟨a, e, he⟩ := hat i r b len hi
    obtain ⟨a', e', he'⟩ := hat j r b' len' hj
    exact gmOk_inj hgm he he')
  rw [c.fs] at this
  exact this
def noG (l : List Pl) : Bool := l.all fun p => match p with | .gm _ _ _ => false | _ => true
theorem gmOk_no {lo hi : Nat} : ∀ {l : List Pl} {used : List Nat}, noG l = true → gmOk lo hi l used = true
  | [], _, _ => rfl
  | p :: l, used, h => by
    simp only [noG, List.all_cons, Bool.and_eq_true] at h
    cases p with
    | gm => exact absurd h.1 (by simp)
    | _ => simpa [gmOk] using gmOk_no (used := used) h.2
theorem draw_any {s : Ch} {H : Heap} (pl : List Pl) (hpl : (planOk n ops pl && noG pl) = true) (h : dwp P ops ops.toList pl Q s H [] []) : SAny P n D ops Q s H := by
  simp only [Bool.and_eq_true] at hpl
  exact draw_anyG [] pl hpl.1 (gmOk_no hpl.2) (by simpa using h)
theorem draw_intro {id : Nat} {s : Ch} {H : Heap} (pl : List Pl) (hpl : (planOk n ops pl && noG pl) = true) (hm : P.follows .mixedOrders = true) (h : dwp P ops ops.toList pl Q s H [] []) : SWp P n D (.region id ops true) Q s H :=
  (draw_any pl hpl h).region hm (by simp only [Bool.and_eq_true] at hpl; exact planOk_nodef hpl.1)
end
end Go.AM
