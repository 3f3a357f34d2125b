/- Texts joined, without what is not needed. No condition. -/
import Derived.Calls
import Derived.Below
import Derived.Tactics
import Derived.Orders
import Derived.Laws.Cells
import Derived.Laws.Entries
import Derived.Laws.IdiomCopy
import Derived.ChangeKeysEq
import Derived.DeepKeys
import Derived.MapKept
set_option linter.unusedVariables false
set_option linter.unusedSimpArgs false
namespace Go.AM
inductive AV where
  | any
  | bool (b : Bool)
  | int (k : IntKind) (n : Int)
  | str (s : ByteArray)
  | nilptr
  | ptr (r i j : Nat)
  | cptr (row : List AV) (j : Nat)
  | view (full : Bool) (sz : Nat) (xs : List (List AV))
  | sl (r off len : Nat) (cap : Option Nat)
  | rsl (r i j len : Nat)
  | nilchan
  | chan (r : Nat)
  | yfn (r : Nat)
  | nilmap
  | map (r : Nat)
  | nilfunc
  | func (fn : Fn) (first captured : List AV)
  | nilif
  | iface (t : TypeId) (v : AV)
  | agg (cs : List AV)
  | tuple (vs : List AV)
def AV.one : AV → Bool
  | .any | .agg _ | .tuple _ => false
  | _ => true
inductive Ch where
  | nil
  | put (s : Ch) (d : Nat) (v : AV)
def Ch.get : Ch → Nat → AV
  | .nil, _ => .any
  | .put s d v, t => if t = d then v else s.get t
inductive Blk where
  | dead
  | rows (sz : Nat) (xs : List (List AV))
  | amap (es : List (AV × AV))
  | raw (q : Obj → Prop)
  | lrec (q : Loop → Prop) (n : Nat) (s : Ch)
abbrev Heap := List Blk
structure Place where
  b : Nat
  sz : Nat
  n : Nat
abbrev Env := Nat → Option Place
abbrev Snap := Nat → Option Obj
def noEnv : Env := fun _ => none
def scell (sn : Snap) (b o : Nat) : Option Value :=
  match sn b with
  | some (.cells c _ _) => c[o]?
  | _ => none
inductive VR (sn : Snap) : Env → AV → Value → Prop where
  | any (ρ : Env) (v : Value) : VR sn ρ .any v
  | bool (ρ : Env) (b : Bool) : VR sn ρ (.bool b) (.bool b)
  | int (ρ : Env) (k : IntKind) (n : Int) : VR sn ρ (.int k n) (.int k n)
  | str (ρ : Env) (s : ByteArray) : VR sn ρ (.str s) (.string s)
  | nilptr (ρ : Env) : VR sn ρ .nilptr (.pointer none)
  | ptr (ρ : Env) (r i j : Nat) (p : Place) (h : ρ r = some p) : VR sn ρ (.ptr r i j) (.pointer (some ⟨p.b, i * p.sz + j, none⟩))
  | cptr (ρ : Env) (row : List AV) (j b o : Nat) (vs : Nat → Value) (hc : ∀ (k : Nat) x, row[k]? = some x → scell sn b (o + k) = some (vs k))
      (ho : ∀ (k : Nat) x, row[k]? = some x → x.one = true)
      (hr : ∀ (k : Nat) x, row[k]? = some x → VR sn noEnv x (vs k)) : VR sn ρ (.cptr row j) (.pointer (some ⟨b, o + j, none⟩))
  | view (ρ : Env) (full : Bool) (sz : Nat) (xs : List (List AV)) (a : Option Addr) (b o c : Nat) (vs : Nat → Nat → Value)
      (hl : xs.length ≤ c) (hm : c ≤ maxLen) (hf : full = true → c = xs.length) (ha : xs ≠ [] → a = some ⟨b, o, none⟩) (hz : ∀ (i : Nat) (row : List AV), xs[i]? = some row → row.length = sz)
      (hc : ∀ (i : Nat) (row : List AV), xs[i]? = some row → ∀ (j : Nat) x, row[j]? = some x → scell sn b (o + (i * sz + j)) = some (vs i j))
      (ho : ∀ (i : Nat) (row : List AV), xs[i]? = some row → ∀ (j : Nat) x, row[j]? = some x → x.one = true)
      (hr : ∀ (i : Nat) (row : List AV), xs[i]? = some row → ∀ (j : Nat) x, row[j]? = some x → VR sn noEnv x (vs i j)) : VR sn ρ (.view full sz xs) (.slice a xs.length c)
  | sl (ρ : Env) (r off len c : Nat) (cap : Option Nat) (ad : Addr) (p : Place) (h : ρ r = some p) (ha : c ≠ 0 → ad = ⟨p.b, off * p.sz, none⟩) (hl : len ≤ c) (hm : c ≤ maxLen) (hn : (off + c) * p.sz ≤ p.n) (hc : ∀ k, cap = some k → c = k) :
      VR sn ρ (.sl r off len cap) (.slice (some ad) len c)
  | sl0 (ρ : Env) (r off : Nat) (cap : Option Nat) (a : Option Addr) (hc : ∀ k, cap = some k → k = 0) : VR sn ρ (.sl r off 0 cap) (.slice a 0 0)
  | rsl (ρ : Env) (r i j len : Nat) (p : Place) (h : ρ r = some p) (hm : len ≤ maxLen) : VR sn ρ (.rsl r i j len) (.slice (some ⟨p.b, i * p.sz + j, none⟩) len len)
  | nilchan (ρ : Env) : VR sn ρ .nilchan (.chan none)
  | chan (ρ : Env) (r : Nat) (p : Place) (h : ρ r = some p) : VR sn ρ (.chan r) (.chan (some p.b))
  | yfn (ρ : Env) (r : Nat) (p : Place) (h : ρ r = some p) : VR sn ρ (.yfn r) (.func (.yield p.b) #[] #[])
  | nilmap (ρ : Env) : VR sn ρ .nilmap (.map none)
  | map (ρ : Env) (r : Nat) (p : Place) (h : ρ r = some p) : VR sn ρ (.map r) (.map (some p.b))
  | nilfunc (ρ : Env) : VR sn ρ .nilfunc .nilFunc
  | func (ρ : Env) (fn : Fn) (xs ys : List AV) (us vs : Array Value) (hu : us.size = xs.length) (hv : vs.size = ys.length)
      (h1 : ∀ (k : Nat) x y, xs[k]? = some x → us[k]? = some y → VR sn ρ x y) (h2 : ∀ (k : Nat) x y, ys[k]? = some x → vs[k]? = some y → VR sn ρ x y) : VR sn ρ (.func fn xs ys) (.func fn us vs)
  | nilif (ρ : Env) : VR sn ρ .nilif .nilIface
  | iface (ρ : Env) (t : TypeId) (x : AV) (y : Value) (h : VR sn ρ x y) : VR sn ρ (.iface t x) (.iface t y)
  | agg (ρ : Env) (xs : List AV) (ys : Array Value) (hs : ys.size = xs.length) (h : ∀ (k : Nat) x y, xs[k]? = some x → ys[k]? = some y → VR sn ρ x y) : VR sn ρ (.agg xs) (.agg ys)
  | tuple (ρ : Env) (xs : List AV) (ys : Array Value) (hs : ys.size = xs.length) (h : ∀ (k : Nat) x y, xs[k]? = some x → ys[k]? = some y → VR sn ρ x y) : VR sn ρ (.tuple xs) (.tuple ys)
def BlkR (sn : Snap) (ρ : Env) (p : Place) : Blk → Obj → Prop
  | .dead, _ => True
  | .rows sz xs, .cells c _ fr => p.sz = sz ∧ p.n = c.size ∧ xs.length * sz ≤ c.size ∧ (∀ (i : Nat) (row : List AV), xs[i]? = some row → row.length = sz) ∧
      (∀ (i : Nat) (row : List AV), xs[i]? = some row → ∀ (j : Nat) x, row[j]? = some x → ∃ v, c[i * sz + j]? = some v ∧ x.one = true ∧ VR sn ρ x v) ∧ (∀ o, o ≤ c.size → ¬ (fr.1 ≤ o ∧ o < fr.2))
  | .amap es, .map ms _ => ms.size = es.length ∧ ∀ (k : Nat) (x : AV × AV) (m : MapEntry), es[k]? = some x → ms[k]? = some m → VR sn noEnv x.1 m.key ∧ VR sn ρ x.2 m.val
  | .raw q, o => q o
  | .lrec q n s, .loop L => L.tmps.size = n ∧ (∀ t, VR sn ρ (s.get t) (L.tmps.getD t undef)) ∧ q L
  | _, _ => False
def Blk.live : Blk → Prop
  | .dead => False
  | _ => True
def Owned (ρ : Env) (H : Heap) (b : Nat) : Prop := ∃ r blk p, H[r]? = some blk ∧ blk.live ∧ ρ r = some p ∧ p.b = b
def gtab : List (Nat × List Value) := [(0, [.string ⟨#[101, 120, 105, 116]⟩, .string ⟨#[112, 105, 100]⟩, .string ⟨#[116, 105, 100]⟩, .string ⟨#[121, 105, 101, 108, 100]⟩, .string ⟨#[115, 112, 97, 119, 110]⟩, .string ⟨#[112, 114, 105]⟩, .string ⟨#[115, 108, 101, 101, 112]⟩, .string ⟨#[119, 97, 107, 101]⟩, .string ⟨#[114, 101, 97, 100]⟩, .string ⟨#[119, 114, 105, 116, 101]⟩, .string ⟨#[116, 105, 109, 101]⟩, .string ⟨#[112, 114, 111, 116, 101, 99, 116]⟩, .string ⟨#[107, 105, 108, 108]⟩]), (1, [.string ⟨#[115, 99, 104, 101, 100]⟩, .string ⟨#[111, 110, 45, 99, 112, 117]⟩, .int .i64 4, .string ⟨#[115, 99, 104, 101, 100]⟩, .string ⟨#[111, 102, 102, 45, 99, 112, 117]⟩, .int .i64 5, .string ⟨#[115, 99, 104, 101, 100]⟩, .string ⟨#[101, 110, 113, 117, 101, 117, 101]⟩, .int .i64 6, .string ⟨#[115, 99, 104, 101, 100]⟩, .string ⟨#[119, 97, 107, 101, 117, 112]⟩, .int .i64 7, .string ⟨#[105, 111]⟩, .string ⟨#[115, 116, 97, 114, 116]⟩, .int .i64 8, .string ⟨#[105, 111]⟩, .string ⟨#[100, 111, 110, 101]⟩, .int .i64 9, .string ⟨#[112, 114, 111, 99]⟩, .string ⟨#[115, 112, 97, 119, 110]⟩, .int .i64 11, .string ⟨#[112, 114, 111, 99]⟩, .string ⟨#[101, 120, 105, 116]⟩, .int .i64 12, .string ⟨#[112, 114, 111, 99]⟩, .string ⟨#[102, 97, 117, 108, 116]⟩, .int .i64 13]), (3, [.int .u64 1, .int .u64 10, .int .u64 100, .int .u64 1000, .int .u64 10000, .int .u64 100000, .int .u64 1000000, .int .u64 10000000, .int .u64 100000000, .int .u64 1000000000, .int .u64 10000000000, .int .u64 100000000000, .int .u64 1000000000000, .int .u64 10000000000000, .int .u64 100000000000000, .int .u64 1000000000000000, .int .u64 10000000000000000, .int .u64 100000000000000000, .int .u64 1000000000000000000, .int .u64 10000000000000000000]), (4, [.string ⟨#[]⟩, .int .i64 0, .string ⟨#[110, 111, 112]⟩, .int .i64 0, .string ⟨#[109, 111, 118, 101]⟩, .int .i64 1, .string ⟨#[115, 101, 116]⟩, .int .i64 3, .string ⟨#[108, 105, 116]⟩, .int .i64 4, .string ⟨#[97, 100, 100]⟩, .int .i64 1, .string ⟨#[115, 117, 98]⟩, .int .i64 1, .string ⟨#[109, 117, 108]⟩, .int .i64 1, .string ⟨#[100, 105, 118]⟩, .int .i64 1, .string ⟨#[109, 111, 100]⟩, .int .i64 1, .string ⟨#[97, 110, 100]⟩, .int .i64 1, .string ⟨#[111, 114]⟩, .int .i64 1, .string ⟨#[120, 111, 114]⟩, .int .i64 1, .string ⟨#[115, 104, 108]⟩, .int .i64 1, .string ⟨#[115, 104, 114]⟩, .int .i64 1, .string ⟨#[115, 97, 114]⟩, .int .i64 1, .string ⟨#[105, 110, 99]⟩, .int .i64 4, .string ⟨#[108, 111, 97, 100, 49]⟩, .int .i64 5, .string ⟨#[108, 111, 97, 100, 56]⟩, .int .i64 5, .string ⟨#[115, 116, 111, 114, 101, 49]⟩, .int .i64 5, .string ⟨#[115, 116, 111, 114, 101, 56]⟩, .int .i64 5, .string ⟨#[98, 101, 113]⟩, .int .i64 5, .string ⟨#[98, 110, 101]⟩, .int .i64 5, .string ⟨#[98, 108, 116]⟩, .int .i64 5, .string ⟨#[98, 103, 101]⟩, .int .i64 5, .string ⟨#[106, 117, 109, 112]⟩, .int .i64 6, .string ⟨#[106, 117, 109, 112, 114]⟩, .int .i64 2, .string ⟨#[99, 97, 108, 108]⟩, .int .i64 6, .string ⟨#[99, 97, 108, 108, 114]⟩, .int .i64 2, .string ⟨#[114, 101, 116]⟩, .int .i64 0, .string ⟨#[112, 117, 115, 104]⟩, .int .i64 2, .string ⟨#[112, 111, 112]⟩, .int .i64 2, .string ⟨#[108, 101, 97]⟩, .int .i64 7, .string ⟨#[115, 121, 115]⟩, .int .i64 8, .string ⟨#[115, 119, 97, 112]⟩, .int .i64 1]), (5, [.int .u8 0, .int .u8 1, .int .u8 28, .int .u8 2, .int .u8 29, .int .u8 14, .int .u8 24, .int .u8 3, .int .u8 30, .int .u8 22, .int .u8 20, .int .u8 15, .int .u8 25, .int .u8 17, .int .u8 4, .int .u8 8, .int .u8 31, .int .u8 27, .int .u8 13, .int .u8 23, .int .u8 21, .int .u8 19, .int .u8 16, .int .u8 7, .int .u8 26, .int .u8 12, .int .u8 18, .int .u8 6, .int .u8 11, .int .u8 5, .int .u8 10, .int .u8 9]), (6, [.int .u8 0, .int .u8 1, .int .u8 56, .int .u8 2, .int .u8 57, .int .u8 49, .int .u8 28, .int .u8 3, .int .u8 61, .int .u8 58, .int .u8 42, .int .u8 50, .int .u8 38, .int .u8 29, .int .u8 17, .int .u8 4, .int .u8 62, .int .u8 47, .int .u8 59, .int .u8 36, .int .u8 45, .int .u8 43, .int .u8 51, .int .u8 22, .int .u8 53, .int .u8 39, .int .u8 33, .int .u8 30, .int .u8 24, .int .u8 18, .int .u8 12, .int .u8 5, .int .u8 63, .int .u8 55, .int .u8 48, .int .u8 27, .int .u8 60, .int .u8 41, .int .u8 37, .int .u8 16, .int .u8 46, .int .u8 35, .int .u8 44, .int .u8 21, .int .u8 52, .int .u8 32, .int .u8 23, .int .u8 11, .int .u8 54, .int .u8 26, .int .u8 40, .int .u8 15, .int .u8 34, .int .u8 20, .int .u8 31, .int .u8 10, .int .u8 25, .int .u8 14, .int .u8 19, .int .u8 9, .int .u8 13, .int .u8 8, .int .u8 7, .int .u8 6])]
def GlOk (sn : Snap) : Prop := ∀ x ∈ gtab, ∃ c t f, sn x.1 = some (.cells c t f) ∧ c.toList = x.2
theorem GlOk.cell {sn : Snap} (h : GlOk sn) : ∀ x ∈ gtab, ∀ (k : Nat) v, x.2[k]? = some v → scell sn x.1 k = some v := fun x hx k v hk => by
  obtain ⟨c, t, f, h1, h2⟩ := h x hx
  rw [scell, h1]
  rw [← h2, Array.getElem?_toList] at hk
  exact hk
structure Rel (sn : Snap) (ρ : Env) (H : Heap) (w : World) : Prop where
  gl : GlOk sn
  snap : ∀ b o, sn b = some o → w.heap[b]? = some o
  own : ∀ (r : Nat) blk p, H[r]? = some blk → blk.live → ρ r = some p → sn p.b = none ∧ ∃ obj, w.heap[p.b]? = some obj ∧ BlkR sn ρ p blk obj
  inj : ∀ (r r' : Nat) blk blk' p p', H[r]? = some blk → blk.live → H[r']? = some blk' → blk'.live → ρ r = some p → ρ r' = some p' → p.b = p'.b → r = r'
  top : ∀ (r : Nat), H.length ≤ r → ρ r = none
structure Ext (sn : Snap) (ρ : Env) (H : Heap) (w : World) (sn' : Snap) (ρ' : Env) (H' : Heap) (w' : World) : Prop where
  env : ∀ r p, ρ r = some p → ρ' r = some p
  envlt : ∀ r, r < H.length → ρ' r = ρ r
  len : H.length ≤ H'.length
  snap : ∀ b o, sn b = some o → sn' b = some o
  below : w.heap.size ≤ w'.heap.size
  os : w'.os = w.os
  tape : w'.tape = w.tape
  output : w'.output = w.output
  frame : ∀ b, b < w.heap.size → ¬ Owned ρ H b → w'.heap[b]? = w.heap[b]?
  newsnap : ∀ b, sn' b ≠ sn b → w.heap.size ≤ b ∨ Owned ρ H b
  newown : ∀ b, Owned ρ' H' b → w.heap.size ≤ b ∨ Owned ρ H b
structure SR (sn : Snap) (ρ : Env) (n : Nat) (s : Ch) (tmps : Array Value) : Prop where
  size : tmps.size = n
  get : ∀ t, VR sn ρ (s.get t) (tmps.getD t undef)
def VRs (sn : Snap) (ρ : Env) (xs : List AV) (ys : List Value) : Prop := ys.length = xs.length ∧ ∀ (k : Nat) x y, xs[k]? = some x → ys[k]? = some y → VR sn ρ x y
theorem scell_mono {sn sn' : Snap} (h : ∀ b o, sn b = some o → sn' b = some o) {b o : Nat} {v : Value} (hc : scell sn b o = some v) : scell sn' b o = some v := by
  unfold scell at *
  cases hb : sn b with
  | none => simp [hb] at hc
  | some ob => rw [h b ob hb]; simpa [hb] using hc
theorem GlOk.mono {sn sn' : Snap} (h : GlOk sn) (hs : ∀ b o, sn b = some o → sn' b = some o) : GlOk sn' := fun x hx => by
  obtain ⟨c, t, f, h1, h2⟩ := h x hx
  exact ⟨c, t, f, hs _ _ h1, h2⟩
theorem VR.mono {sn sn' : Snap} (hs : ∀ b o, sn b = some o → sn' b = some o) {ρ : Env} {x : AV} {v : Value} (h : VR sn ρ x v) :
    ∀ {ρ' : Env}, (∀ r p, ρ r = some p → ρ' r = some p) → VR sn' ρ' x v := by
  induction h with
  | any => intro _ _; exact .any _ _
  | bool => intro _ _; exact .bool _ _
  | int => intro _ _; exact .int _ _ _
  | str => intro _ _; exact .str _ _
  | nilptr => intro _ _; exact .nilptr _
  | ptr ρ r i j p h => intro ρ' hr; exact .ptr _ _ _ _ _ (hr _ _ h)
  | cptr ρ row j b o vs hc ho hr ih => intro ρ' _; exact .cptr _ _ _ b o vs (fun k x hk => scell_mono hs (hc k x hk)) ho (fun k x hk => ih k x hk (fun _ _ h => h))
  | view ρ full sz xs a b o c vs hl hm hf ha hz hc ho hr ih =>
    intro ρ' _
    exact .view _ _ _ _ a b o c vs hl hm hf ha hz (fun i row hi j x hj => scell_mono hs (hc i row hi j x hj)) ho (fun i row hi j x hj => ih i row hi j x hj (fun _ _ h => h))
  | sl ρ r off len c cap ad p h ha hl hm hn hc => intro ρ' hr; exact .sl _ _ _ _ _ _ ad p (hr _ _ h) ha hl hm hn hc
  | sl0 ρ r off cap a hc => intro ρ' hr; exact .sl0 _ _ _ _ a hc
  | rsl ρ r i j len p h hm => intro ρ' hr; exact .rsl _ _ _ _ _ _ (hr _ _ h) hm
  | nilchan => intro _ _; exact .nilchan _
  | chan ρ r p h => intro ρ' hr; exact .chan _ _ p (hr _ _ h)
  | yfn ρ r p h => intro ρ' hr; exact .yfn _ _ p (hr _ _ h)
  | nilmap => intro _ _; exact .nilmap _
  | map ρ r p h => intro ρ' hr; exact .map _ _ p (hr _ _ h)
  | nilfunc => intro _ _; exact .nilfunc _
  | func ρ fn xs ys us vs hu hv h1 h2 ih1 ih2 => intro ρ' hr; exact .func _ _ _ _ _ _ hu hv (fun k x y hx hy => ih1 k x y hx hy hr) (fun k x y hx hy => ih2 k x y hx hy hr)
  | nilif => intro _ _; exact .nilif _
  | iface ρ t x y h ih => intro ρ' hr; exact .iface _ _ _ _ (ih hr)
  | agg ρ xs ys hs' h ih => intro ρ' hr; exact .agg _ _ _ hs' (fun k x y hx hy => ih k x y hx hy hr)
  | tuple ρ xs ys hs' h ih => intro ρ' hr; exact .tuple _ _ _ hs' (fun k x y hx hy => ih k x y hx hy hr)
theorem BlkR.mono {sn sn' : Snap} {ρ ρ' : Env} (hs : ∀ b o, sn b = some o → sn' b = some o) (hr : ∀ r p, ρ r = some p → ρ' r = some p) {p : Place} {b : Blk} {o : Obj} (h : BlkR sn ρ p b o) : BlkR sn' ρ' p b o := by
  cases b with
  | dead => trivial
  | rows sz xs =>
    cases o <;> simp only [BlkR] at h ⊢
    obtain ⟨h1, h2, h3, h4, h5, h6⟩ := h
    exact ⟨h1, h2, h3, h4, fun i row hi j x hj => let ⟨v, e1, e2, e3⟩ := h5 i row hi j x hj; ⟨v, e1, e2, e3.mono hs hr⟩, h6⟩
  | amap es =>
    cases o <;> simp only [BlkR] at h ⊢
    exact ⟨h.1, fun k x m hx hm => ⟨(h.2 k x m hx hm).1.mono hs (fun _ _ h => h), (h.2 k x m hx hm).2.mono hs hr⟩⟩
  | raw q => exact h
  | lrec q n s =>
    cases o <;> simp only [BlkR] at h ⊢
    exact ⟨h.1, fun t => (h.2.1 t).mono hs hr, h.2.2⟩
theorem SR.mono {sn sn' : Snap} {ρ ρ' : Env} {n : Nat} {s : Ch} {t : Array Value} (h : SR sn ρ n s t) (hs : ∀ b o, sn b = some o → sn' b = some o) (hr : ∀ r p, ρ r = some p → ρ' r = some p) : SR sn' ρ' n s t :=
  ⟨h.size, fun t => (h.get t).mono hs hr⟩
theorem Ext.refl (sn : Snap) (ρ : Env) (H : Heap) (w : World) : Ext sn ρ H w sn ρ H w :=
  ⟨fun _ _ h => h, fun _ _ => rfl, Nat.le_refl _, fun _ _ h => h, Nat.le_refl _, rfl, rfl, rfl, fun _ _ _ => rfl, fun _ h => absurd rfl h, fun _ h => .inr h⟩
theorem Ext.trans {sn sn1 sn2 : Snap} {ρ ρ1 ρ2 : Env} {H H1 H2 : Heap} {w w1 w2 : World} (a : Ext sn ρ H w sn1 ρ1 H1 w1) (b : Ext sn1 ρ1 H1 w1 sn2 ρ2 H2 w2) : Ext sn ρ H w sn2 ρ2 H2 w2 where
  env := fun r p h => b.env r p (a.env r p h)
  envlt := fun r h => (b.envlt r (Nat.lt_of_lt_of_le h a.len)).trans (a.envlt r h)
  len := Nat.le_trans a.len b.len
  snap := fun x o h => b.snap x o (a.snap x o h)
  below := Nat.le_trans a.below b.below
  os := b.os.trans a.os
  tape := b.tape.trans a.tape
  output := b.output.trans a.output
  frame := fun x hx ho => by
    have h1 : ¬ Owned ρ1 H1 x := fun h => by
      rcases a.newown x h with h | h
      · omega
      · exact ho h
    exact (b.frame x (Nat.lt_of_lt_of_le hx a.below) h1).trans (a.frame x hx ho)
  newsnap := fun x h => by
    by_cases h1 : sn1 x = sn x
    · rcases b.newsnap x (by rw [h1]; exact h) with h2 | h2
      · exact .inl (Nat.le_trans a.below h2)
      · exact a.newown x h2
    · exact a.newsnap x h1
  newown := fun x h => by
    rcases b.newown x h with h2 | h2
    · exact .inl (Nat.le_trans a.below h2)
    · exact a.newown x h2
theorem SR.put {sn : Snap} {ρ : Env} {n : Nat} {s : Ch} {a : Act} (h : SR sn ρ n s a.tmps) {d : Nat} (hd : d < n) {x : AV} {v : Value} (hv : VR sn ρ x v) : SR sn ρ n (s.put d x) (a.put (some d) v).tmps := by
  refine ⟨by simp [Act.put, h.size], fun t => ?_⟩
  by_cases e : t = d
  · subst e
    have : t < a.tmps.size := by rw [h.size]; exact hd
    simp [Ch.get, Act.put, Array.getElem?_setIfInBounds, this]
    exact hv
  · have := h.get t
    have e' : ¬ d = t := fun h => e h.symm
    simp only [Ch.get, if_neg e]
    simpa [Act.put, Array.getElem?_setIfInBounds, e'] using this
end Go.AM
set_option linter.unusedVariables false
set_option linter.unusedSimpArgs false
namespace Go.AM
inductive TD where
  | bool | str | func | iface | other
  | int (k : IntKind)
  | ptr (e : Nat)
  | slice (e : Nat)
  | array (n e : Nat)
  | struct (fs : List (Nat × Nat))
  | map (k e : Nat)
def TD.of : TypeDesc → TD
  | .bool => .bool | .string => .str | .func .. => .func | .interface _ => .iface
  | .int k => .int k | .pointer e => .ptr e | .slice e => .slice e | .array n e => .array n e
  | .struct fs => .struct (fs.toList.map fun f => (f.offset, f.type))
  | .map k e => .map k e
  | _ => .other
def TD.isAgg : TD → Bool
  | .struct _ | .array .. => true
  | _ => false
def AV.ofV : Value → AV
  | .bool b => .bool b | .int k n => .int k n | .string s => .str s
  | .pointer none => .nilptr
  | .slice none 0 0 => .view true 0 []
  | .chan none => .nilchan | .map none => .nilmap | .nilFunc => .nilfunc | .nilIface => .nilif
  | _ => .any
structure TI where
  size : Nat
  bytes : Nat
  zero : List AV
  desc : TD
def tinfo (P : Program) (t : TypeId) : Option TI :=
  match P.info? t, P.underlying t with
  | some i, some d =>
    match i.zero with
    | some z => some ⟨i.size, i.bytes, z.cells.toList.map AV.ofV, TD.of d⟩
    | none => none
  | _, _ => none
theorem ofV_ok (sn : Snap) (ρ : Env) (v : Value) : VR sn ρ (AV.ofV v) v := by
  unfold AV.ofV
  split
  · exact .bool _ _
  · exact .int _ _ _
  · exact .str _ _
  · exact .nilptr _
  · exact .view ρ true 0 [] none 0 0 0 (fun _ _ => undef) (by simp) (by simp [maxLen]) (by simp) (by simp) (by simp) (by simp) (by simp) (by simp)
  · exact .nilchan _
  · exact .nilmap _
  · exact .nilfunc _
  · exact .nilif _
  · exact .any _ _
theorem tinfo_ok {P : Program} {t : TypeId} {i : TI} (h : tinfo P t = some i) : ∃ inf d z, P.info? t = some inf ∧ P.underlying t = some d ∧ inf.zero = some z ∧ inf.size = i.size ∧ inf.bytes = i.bytes ∧ i.zero = z.cells.toList.map AV.ofV ∧ i.desc = TD.of d := by
  unfold tinfo at h
  split at h
  · rename_i inf d h1 h2
    split at h
    · rename_i z hz
      injection h with h
      subst h
      exact ⟨inf, d, z, h1, h2, hz, rfl, rfl, rfl, rfl⟩
    · cases h
  · cases h
theorem run_info {P : Program} {t : TypeId} {i : TypeInfo} (h : P.info? t = some i) (w : World) : (typeInfo t).run P w = .ok i w := by simp [typeInfo, h]
section runs
variable {P : Program} {t : TypeId} {i : TI} (h : tinfo P t = some i) (w : World)
include h
theorem run_size_ti : (sizeOf t).run P w = .ok i.size w := by
  obtain ⟨inf, d, z, h1, h2, h3, h4, h5, h6, h7⟩ := tinfo_ok h
  simp [sizeOf, run_info h1, h4]
theorem run_agg_ti : (isAgg t).run P w = .ok i.desc.isAgg w := by
  obtain ⟨inf, d, z, h1, h2, h3, h4, h5, h6, h7⟩ := tinfo_ok h
  rw [h7]
  cases d <;> simp [isAgg, run_underlying h2, TD.of, TD.isAgg]
theorem run_zero_ti : ∃ z : Value, (zeroValue t).run P w = .ok z w ∧ i.zero = z.cells.toList.map AV.ofV := by
  obtain ⟨inf, d, z, h1, h2, h3, h4, h5, h6, h7⟩ := tinfo_ok h
  exact ⟨z, by simp [zeroValue, run_info h1, h3], h6⟩
theorem run_under_ti : ∃ d, (underlying t).run P w = .ok d w ∧ i.desc = TD.of d ∧ P.underlying t = some d := by
  obtain ⟨inf, d, z, h1, h2, h3, h4, h5, h6, h7⟩ := tinfo_ok h
  exact ⟨d, run_underlying h2 w, h7, h2⟩
end runs
inductive AR where
  | bad
  | val (v : AV)
  | chk (p : Prop) (r : AR)
  | ndb (p : Bool → Prop)
  | alloc (b : Blk) (v : Nat → AV)
  | upd (H : Heap) (v : AV)
  | call (f : FuncId) (args : List AV)
  | pan (v : AV)
def envPut (ρ : Env) (r : Nat) (p : Place) : Env := fun x => if x = r then some p else ρ x
def AR.ok (r : AR) (P : Program) (run : Result Next) (sn : Snap) (ρ : Env) (H : Heap) (w : World) : Prop :=
  match r with
  | .bad => True
  | .val v => ∃ cv, run = .ok (.value cv) w ∧ VR sn ρ v cv
  | .chk p r => p → r.ok P run sn ρ H w
  | .ndb p => ∃ b, run = .ok (.value (.bool b)) w ∧ p b
  | .alloc b v => ∃ obj cv w' sz n, run = .ok (.value cv) w' ∧ w'.heap = w.heap.push obj ∧ w'.os = w.os ∧ w'.tape = w.tape ∧ w'.output = w.output ∧ b.live ∧
      BlkR sn (envPut ρ H.length ⟨w.heap.size, sz, n⟩) ⟨w.heap.size, sz, n⟩ b obj ∧ VR sn (envPut ρ H.length ⟨w.heap.size, sz, n⟩) (v H.length) cv
  | .upd H' v => ∃ cv w' sn' ρ', (run = .ok (.value cv) w' ∨ (run = .ok .skip w' ∧ cv = undef)) ∧ VR sn' ρ' v cv ∧ Rel sn' ρ' H' w' ∧ Ext sn ρ H w sn' ρ' H' w'
  | .call f args => ∃ vs, run = .ok (.enter f vs) w ∧ VRs sn ρ args vs.toList
  | .pan v => ∃ cv, run = .halt (.panic cv) w ∧ VR sn ρ v cv
def gAV (g : Nat) : AV := match gtab.find? (fun x => x.1 == g) with
  | some x => if (x.2.map AV.ofV).all AV.one = true then .cptr (x.2.map AV.ofV) 0 else .any
  | none => .any
theorem gAV_ok {sn : Snap} (hg : GlOk sn) (ρ : Env) (g : Nat) : VR sn ρ (gAV g) (.pointer (some ⟨g, 0, none⟩)) := by
  unfold gAV
  split
  · rename_i x hx
    split
    · rename_i h1
      have hm := List.mem_of_find?_eq_some hx
      have he : x.1 = g := by simpa using List.find?_some hx
      have key : ∀ (k : Nat) a, (x.2.map AV.ofV)[k]? = some a → ∃ v, x.2[k]? = some v ∧ a = AV.ofV v := fun k a hk => by
        simp only [List.getElem?_map, Option.map_eq_some_iff] at hk
        obtain ⟨v, h2, h3⟩ := hk
        exact ⟨v, h2, h3.symm⟩
      have hv : ∀ (k : Nat) a, (x.2.map AV.ofV)[k]? = some a → x.2[k]? = some ((x.2[k]?).getD undef) ∧ a = AV.ofV ((x.2[k]?).getD undef) := fun k a hk => by
        obtain ⟨v, h2, h3⟩ := key k a hk
        rw [h2]; exact ⟨rfl, h3⟩
      refine .cptr ρ _ 0 g 0 (fun k => (x.2[k]?).getD undef) (fun k a hk => ?_) (fun k a hk => ?_) (fun k a hk => ?_)
      · have := hg.cell x hm k _ (hv k a hk).1
        rw [he] at this
        rw [Nat.zero_add]
        exact this
      · exact List.all_eq_true.1 h1 _ (List.mem_of_getElem? hk)
      · rw [(hv k a hk).2]
        exact ofV_ok _ _ _
    · exact .any _ _
  · exact .any _ _
def cev (s : Ch) : Operand → AV
  | .tmp t => s.get t
  | .const v => .ofV v
  | .global g => gAV g
  | .func f => .func (.func f) [] []
theorem cev_ok {sn : Snap} {ρ : Env} {n : Nat} {s : Ch} {a : Act} (hg : GlOk sn) (h : SR sn ρ n s a.tmps) (x : Operand) : VR sn ρ (cev s x) (a.eval x) := by
  cases x with
  | tmp t => exact h.get t
  | const v => exact ofV_ok _ _ _
  | global g => exact gAV_ok hg _ _
  | func f => exact .func _ _ _ _ _ _ rfl rfl (by simp) (by simp)
def AV.cells : AV → Option (List AV)
  | .agg cs => some cs
  | .any | .tuple _ => none
  | v => some [v]
theorem VR.cells_one {sn : Snap} {ρ : Env} {x : AV} {v : Value} (h : VR sn ρ x v) (h1 : x.one = true) : v.cells = #[v] ∧ v.oneCell' = true ∧ x.cells = some [x] := by
  cases h <;> simp [AV.one] at h1 <;> simp [Value.cells, Value.oneCell', AV.cells]
theorem VR.cells_ok {sn : Snap} {ρ : Env} {x : AV} {v : Value} (h : VR sn ρ x v) {cs : List AV} (hc : x.cells = some cs) :
    v.cells.size = cs.length ∧ ∀ (k : Nat) (c : AV), cs[k]? = some c → ∃ u, v.cells[k]? = some u ∧ VR sn ρ c u := by
  by_cases h1 : x.one = true
  · obtain ⟨e1, e2, e3⟩ := h.cells_one h1
    rw [e3] at hc
    injection hc with hc
    subst hc
    rw [e1]
    refine ⟨rfl, fun k c hk => ?_⟩
    cases k with
    | zero => simp at hk; subst hk; exact ⟨v, rfl, h⟩
    | succ k => simp at hk
  · cases h <;> simp [AV.one] at h1 <;> simp [AV.cells] at hc
    rename_i xs ys hs h
    subst hc
    simp only [Value.cells]
    refine ⟨hs, fun k c hk => ?_⟩
    have hk' : k < ys.size := by
      rw [hs]
      exact (List.getElem?_eq_some_iff.1 hk).1
    exact ⟨ys[k], Array.getElem?_eq_getElem hk', h k c _ hk (Array.getElem?_eq_getElem hk')⟩
def aField (P : Program) (t : TypeId) (x : AV) (f : Nat) : AR :=
  match tinfo P t with
  | some ⟨_, _, _, .struct fs⟩ =>
    match fs[f]?, x with
    | some (off, ft), .agg cs =>
      match tinfo P ft with
      | some i => if i.desc.isAgg then .val (.agg ((cs.drop off).take i.size)) else match cs[off]? with | some v => .val v | none => .bad
      | none => .bad
    | _, _ => .bad
  | _ => .bad
theorem aField_ok {P : Program} {sn : Snap} {ρ : Env} {H : Heap} {w : World} {t : TypeId} {x : AV} {f : Nat} {cx : Value} (hx : VR sn ρ x cx) :
    (aField P t x f).ok P ((do pure (Next.value (← Instr.field t cx f)) : Sem Next).run P w) sn ρ H w := by
  unfold aField
  split
  · rename_i sz by_ ze fs ht
    obtain ⟨d, hd, hdd, hun⟩ := run_under_ti ht w
    split
    · rename_i off ft cs hf
      split
      · rename_i i hi
        cases hx
        rename_i ys hs h
        cases d <;> simp [TD.of] at hdd
        rename_i fields
        subst hdd
        simp only [List.getElem?_map, Option.map_eq_some_iff] at hf
        obtain ⟨fl, hfl, he⟩ := hf
        simp only [Prod.mk.injEq] at he
        obtain ⟨rfl, rfl⟩ := he
        have hfl' : fields[f]? = some fl := by simpa using hfl
        split
        · rename_i hag
          refine ⟨.agg (ys.extract fl.offset (fl.offset + i.size)), ?_, .agg _ _ _ ?_ ?_⟩
          · simp [Instr.field, hd, hfl', asAgg, part, run_agg_ti hi, hag, run_size_ti hi]
          · simp [hs]; omega
          · intro k a b hk hb
            have hk2 : k < i.size ∧ cs[fl.offset + k]? = some a := by
              rw [List.getElem?_take] at hk
              split at hk
              · rename_i hlt; exact ⟨hlt, by simpa using hk⟩
              · cases hk
            have hb2 : ys[fl.offset + k]? = some b := by
              rw [Array.getElem?_extract] at hb
              split at hb
              · exact hb
              · cases hb
            exact h _ _ _ hk2.2 hb2
        · rename_i hag
          split
          · rename_i v hv
            have hlt : fl.offset < ys.size := by rw [hs]; exact (List.getElem?_eq_some_iff.1 hv).1
            refine ⟨ys[fl.offset], ?_, h _ _ _ hv (Array.getElem?_eq_getElem hlt)⟩
            simp [Instr.field, hd, hfl', asAgg, part, run_agg_ti hi, hag, hlt]
          · trivial
      · trivial
    · trivial
  · trivial
end Go.AM
set_option linter.unusedVariables false
set_option linter.unusedSimpArgs false
namespace Go.AM
theorem add_mk (b o n : Nat) : (⟨b, o, none⟩ : Addr).add n = ⟨b, o + n, none⟩ := by
  unfold Addr.add
  split <;> simp_all
theorem cell_heap {w : World} {b o : Nat} {c : Array Value} {t : TypeId} {fr : Nat × Nat} (h : w.heap[b]? = some (.cells c t fr)) : w.cell? ⟨b, o, none⟩ = c[o]? := by
  simp [World.cell?, h]
theorem Rel.scell {sn : Snap} {ρ : Env} {H : Heap} {w : World} (h : Rel sn ρ H w) {b o : Nat} {v : Value} (hc : scell sn b o = some v) : w.cell? ⟨b, o, none⟩ = some v := by
  unfold AM.scell at hc
  split at hc
  · rename_i c t fr hs
    rw [cell_heap (h.snap _ _ hs)]
    exact hc
  · cases hc
theorem Rel.rows {sn : Snap} {ρ : Env} {H : Heap} {w : World} (h : Rel sn ρ H w) {r : Nat} {sz : Nat} {xs : List (List AV)} {p : Place} (hr : H[r]? = some (.rows sz xs)) (hp : ρ r = some p) :
    ∃ c t fr, w.heap[p.b]? = some (.cells c t fr) ∧ sn p.b = none ∧ p.sz = sz ∧ p.n = c.size ∧ xs.length * sz ≤ c.size ∧ (∀ (i : Nat) (row : List AV), xs[i]? = some row → row.length = sz) ∧
      (∀ (i : Nat) (row : List AV), xs[i]? = some row → ∀ (j : Nat) x, row[j]? = some x → ∃ v, c[i * sz + j]? = some v ∧ x.one = true ∧ VR sn ρ x v) ∧ (∀ o, o ≤ c.size → ¬ (fr.1 ≤ o ∧ o < fr.2)) := by
  obtain ⟨h1, obj, h2, h3⟩ := h.own r _ p hr trivial hp
  cases obj <;> simp only [BlkR] at h3
  rename_i c t fr
  exact ⟨c, t, fr, h2, h1, h3⟩
theorem run_storeCells_blk (P : Program) (b o : Nat) (t : TypeId) (fr : Nat × Nat) : ∀ (vs : List Value) (i : Nat) (c : Array Value) (w : World), w.heap[b]? = some (.cells c t fr) →
    o + i + vs.length ≤ c.size → (∀ v ∈ vs, v.oneCell' = true) → (∀ k, k ≤ c.size → ¬ (fr.1 ≤ k ∧ k < fr.2)) →
    ∃ c', (storeCells ⟨b, o, none⟩ vs i).run P w = .ok () { w with heap := w.heap.setIfInBounds b (.cells c' t fr) } ∧ c'.size = c.size ∧
      ∀ k, c'[k]? = if o + i ≤ k ∧ k < o + i + vs.length then vs[k - (o + i)]? else c[k]? := by
  intro vs
  induction vs with
  | nil =>
    intro i c w hb _ _ _
    refine ⟨c, ?_, rfl, fun k => by simp; omega⟩
    have : w.heap.setIfInBounds b (.cells c t fr) = w.heap := by
      apply Array.ext_getElem?
      intro k
      rw [Array.getElem?_setIfInBounds]
      split
      · rename_i e; subst e; split
        · rw [hb]
        · rename_i hlt; have := (Array.getElem?_eq_some_iff.1 hb).1; omega
      · rfl
    rw [this]
    rfl
  | cons v vs ih =>
    intro i c w hb hn hv hf
    simp only [List.length_cons] at hn
    have hlt : o + i < c.size := by omega
    have hcell : w.cell? ⟨b, o + i, none⟩ = some c[o + i] := by rw [cell_heap hb]; exact Array.getElem?_eq_getElem hlt
    have hfz : w.frozen? ⟨b, o + i, none⟩ = false := by
      have := hf _ (Nat.le_of_lt hlt)
      simp [World.frozen?, hb]
      omega
    have hset : w.setCell ⟨b, o + i, none⟩ v = { w with heap := w.heap.setIfInBounds b (.cells (c.setIfInBounds (o + i) v) t fr) } := by
      have hbl := (Array.getElem?_eq_some_iff.1 hb).1
      simp only [World.setCell]
      congr 1
      apply Array.ext_getElem?
      intro k
      rw [Array.getElem?_modify, Array.getElem?_setIfInBounds]
      split
      · rename_i e; subst e; simp [hb, hbl]
        have e2 := Array.getElem?_eq_getElem hbl
        rw [hb] at e2
        injection e2 with e2
        rw [← e2]
      · rfl
    have hb2 : ({ w with heap := w.heap.setIfInBounds b (.cells (c.setIfInBounds (o + i) v) t fr) } : World).heap[b]? = some (.cells (c.setIfInBounds (o + i) v) t fr) := by
      have hbl := (Array.getElem?_eq_some_iff.1 hb).1
      simp [Array.getElem?_setIfInBounds, hbl]
    obtain ⟨c', h1, h2, h3⟩ := ih (i + 1) (c.setIfInBounds (o + i) v) _ hb2 (by simp; omega) (fun u hu => hv u (by simp [hu])) (by simpa using hf)
    refine ⟨c', ?_, by simpa using h2, fun k => ?_⟩
    · simp only [storeCells, Sem.run_bind, add_mk]
      rw [run_store P w _ v .plain (hv v (by simp)), hcell]
      simp only [hfz, Bool.false_eq_true, if_false, Result.andThen_ok, hset]
      rw [h1]
      simp
    · rw [h3 k]
      simp only [List.length_cons]
      by_cases e : k = o + i
      · subst e
        rw [if_neg (by omega), if_pos (by omega)]
        simp [Array.getElem?_setIfInBounds, hlt]
      · by_cases e2 : o + i ≤ k ∧ k < o + i + (vs.length + 1)
        · rw [if_pos (by omega), if_pos e2]
          obtain ⟨m, hm⟩ : ∃ m, k - (o + i) = m + 1 := ⟨k - (o + i) - 1, by omega⟩
          rw [hm, List.getElem?_cons_succ]
          congr 1
          omega
        · rw [if_neg (by omega), if_neg e2]
          have : ¬ o + i = k := fun h => e h.symm
          simp [Array.getElem?_setIfInBounds, this]
theorem Rel.lt {sn : Snap} {ρ : Env} {H : Heap} {w : World} (h : Rel sn ρ H w) {r : Nat} {blk : Blk} {p : Place} (hr : H[r]? = some blk) (hl : blk.live) (hp : ρ r = some p) : p.b < w.heap.size := by
  obtain ⟨_, obj, h2, _⟩ := h.own r blk p hr hl hp
  exact (Array.getElem?_eq_some_iff.1 h2).1
theorem getElem?_set_list {α : Type} {l : List α} {r x : Nat} {b y : α} (h : (l.set r b)[x]? = some y) : (x = r ∧ y = b) ∨ (x ≠ r ∧ l[x]? = some y) := by
  rw [List.getElem?_set] at h
  split at h
  · split at h
    · injection h with h; exact .inl ⟨by omega, h.symm⟩
    · cases h
  · exact .inr ⟨by omega, h⟩
theorem Rel.update {sn : Snap} {ρ : Env} {H : Heap} {w : World} (h : Rel sn ρ H w) {r : Nat} {blk blk' : Blk} {p : Place} {obj : Obj} (hr : H[r]? = some blk) (hl : blk.live) (hp : ρ r = some p)
    (hb : BlkR sn ρ p blk' obj) : Rel sn ρ (H.set r blk') { w with heap := w.heap.setIfInBounds p.b obj } ∧ Ext sn ρ H w sn ρ (H.set r blk') { w with heap := w.heap.setIfInBounds p.b obj } := by
  have hlt := h.lt hr hl hp
  have hsn := (h.own r blk p hr hl hp).1
  have hown : Owned ρ H p.b := ⟨r, blk, p, hr, hl, hp, rfl⟩
  have hne : ∀ b, b ≠ p.b → (w.heap.setIfInBounds p.b obj)[b]? = w.heap[b]? := fun b hb => by
    rw [Array.getElem?_setIfInBounds]; rw [if_neg (fun e => hb e.symm)]
  refine ⟨⟨h.gl, fun b o hs => ?_, fun x bx q hx hlx hq => ?_, fun x y bx cy q q' hx hlx hy hly hq hq' he => ?_, fun x hx => h.top x (by simpa using hx)⟩, ?_⟩
  · rw [show ({ w with heap := w.heap.setIfInBounds p.b obj } : World).heap = w.heap.setIfInBounds p.b obj from rfl, hne b (fun e => by subst e; rw [hsn] at hs; cases hs)]
    exact h.snap b o hs
  · rcases getElem?_set_list hx with ⟨rfl, rfl⟩ | ⟨hxr, hx⟩
    · rw [hp] at hq
      injection hq with hq
      subst hq
      exact ⟨hsn, obj, by simp [Array.getElem?_setIfInBounds, hlt], hb⟩
    · obtain ⟨h1, o, h2, h3⟩ := h.own x bx q hx hlx hq
      refine ⟨h1, o, ?_, h3⟩
      have : q.b ≠ p.b := fun e => hxr (h.inj x r bx blk q p hx hlx hr hl hq hp e)
      exact (hne _ this).trans h2
  · rcases getElem?_set_list hx with ⟨e1, _⟩ | ⟨hxr, hx'⟩ <;> rcases getElem?_set_list hy with ⟨e2, _⟩ | ⟨hyr, hy'⟩
    · omega
    · subst e1; exact h.inj _ y blk cy q q' hr hl hy' hly hq hq' he
    · subst e2; exact h.inj x _ bx blk q q' hx' hlx hr hl hq hq' he
    · exact h.inj x y bx cy q q' hx' hlx hy' hly hq hq' he
  · refine ⟨fun _ _ h => h, fun _ _ => rfl, by simp, fun _ _ h => h, by simp, rfl, rfl, rfl, fun b hb ho => hne b (fun e => ho (e ▸ hown)), fun b hb => absurd rfl hb, fun b ho => ?_⟩
    obtain ⟨x, bx, q, hx, hlx, hq, he⟩ := ho
    rcases getElem?_set_list hx with ⟨rfl, _⟩ | ⟨_, hx⟩
    · rw [hp] at hq
      injection hq with hq
      subst hq
      exact .inr ⟨_, blk, _, hr, hl, hp, he⟩
    · exact .inr ⟨x, bx, q, hx, hlx, hq, he⟩
theorem envPut_same (ρ : Env) (r : Nat) (p : Place) : envPut ρ r p r = some p := by simp [envPut]
theorem envPut_mono {ρ : Env} {r : Nat} {p : Place} (h : ρ r = none) : ∀ x q, ρ x = some q → envPut ρ r p x = some q := fun x q hq => by
  simp only [envPut]
  split
  · rename_i e; subst e; rw [h] at hq; cases hq
  · exact hq
theorem Rel.push {sn : Snap} {ρ : Env} {H : Heap} {w w' : World} (h : Rel sn ρ H w) {blk : Blk} {obj : Obj} {sz n : Nat} (hw : w'.heap = w.heap.push obj) (ho : w'.os = w.os) (ht : w'.tape = w.tape) (hp : w'.output = w.output)
    (hl : blk.live) (hb : BlkR sn (envPut ρ H.length ⟨w.heap.size, sz, n⟩) ⟨w.heap.size, sz, n⟩ blk obj) :
    Rel sn (envPut ρ H.length ⟨w.heap.size, sz, n⟩) (H ++ [blk]) w' ∧ Ext sn ρ H w sn (envPut ρ H.length ⟨w.heap.size, sz, n⟩) (H ++ [blk]) w' := by
  have htop : ρ H.length = none := h.top _ (Nat.le_refl _)
  have hmono := envPut_mono (p := ⟨w.heap.size, sz, n⟩) htop
  have hold : ∀ b, b < w.heap.size → w'.heap[b]? = w.heap[b]? := fun b hb => by rw [hw, Array.getElem?_push, if_neg (by omega)]
  have hnosnap : sn w.heap.size = none := by
    cases hs : sn w.heap.size with
    | none => rfl
    | some o => have := (Array.getElem?_eq_some_iff.1 (h.snap _ _ hs)).1; omega
  have key : ∀ (x : Nat) bx, (H ++ [blk])[x]? = some bx → (x = H.length ∧ bx = blk) ∨ (x < H.length ∧ H[x]? = some bx) := fun x bx hx => by
    rw [List.getElem?_append] at hx
    split at hx
    · exact .inr ⟨by assumption, hx⟩
    · rename_i hge
      by_cases e : x = H.length
      · subst e; simp at hx; exact .inl ⟨rfl, hx.symm⟩
      · rw [List.getElem?_eq_none (by simp; omega)] at hx; cases hx
  have eold : ∀ x q, x < H.length → envPut ρ H.length ⟨w.heap.size, sz, n⟩ x = some q → ρ x = some q := fun x q hx hq => by
    simp only [envPut] at hq; rw [if_neg (by omega)] at hq; exact hq
  refine ⟨⟨h.gl, fun b o hs => ?_, fun x bx q hx hlx hq => ?_, fun x y bx cy q q' hx hlx hy hly hq hq' he => ?_, fun x hx => ?_⟩, ?_⟩
  · have := h.snap b o hs
    rw [hold b (Array.getElem?_eq_some_iff.1 this).1]
    exact this
  · rcases key x bx hx with ⟨rfl, rfl⟩ | ⟨hlt, hx⟩
    · rw [envPut_same] at hq
      injection hq with hq
      subst hq
      exact ⟨hnosnap, obj, by simp [hw], hb⟩
    · have hq := eold _ _ hlt hq
      obtain ⟨h1, o, h2, h3⟩ := h.own x bx q hx hlx hq
      exact ⟨h1, o, by rw [hold _ (Array.getElem?_eq_some_iff.1 h2).1]; exact h2, h3.mono (fun _ _ h => h) hmono⟩
  · rcases key x bx hx with ⟨e1, _⟩ | ⟨hlt, hx'⟩ <;> rcases key y cy hy with ⟨e2, _⟩ | ⟨hlt', hy'⟩
    · omega
    · subst e1
      rw [envPut_same] at hq
      injection hq with hq
      subst hq
      have := h.lt hy' hly (eold _ _ hlt' hq')
      simp only at he
      omega
    · subst e2
      rw [envPut_same] at hq'
      injection hq' with hq'
      subst hq'
      have := h.lt hx' hlx (eold _ _ hlt hq)
      simp only at he
      omega
    · exact h.inj x y bx cy q q' hx' hlx hy' hly (eold _ _ hlt hq) (eold _ _ hlt' hq') he
  · simp only [List.length_append, List.length_cons, List.length_nil] at hx
    simp only [envPut]
    rw [if_neg (by omega)]
    exact h.top x (by omega)
  · refine ⟨hmono, fun r hr => by simp only [envPut]; rw [if_neg (by omega)], by simp, fun _ _ h => h, by simp [hw], ho, ht, hp, fun b hb _ => hold b hb, fun b hb => absurd rfl hb, fun b ho => ?_⟩
    obtain ⟨x, bx, q, hx, hlx, hq, he⟩ := ho
    rcases key x bx hx with ⟨rfl, rfl⟩ | ⟨hlt, hx⟩
    · rw [envPut_same] at hq
      injection hq with hq
      subst hq
      exact .inl (by simp only at he; omega)
    · exact .inr ⟨x, bx, q, hx, hlx, eold _ _ hlt hq, he⟩
end Go.AM
set_option linter.unusedVariables false
set_option linter.unusedSimpArgs false
namespace Go.AM
def rowAt (xs : List (List AV)) (i : Nat) : List AV := (xs[i]?).getD []
abbrev asNext (s : Sem Value) : Sem Next := do pure (Next.value (← s))
abbrev asSkip (s : Sem Unit) : Sem Next := do s; pure Next.skip
def aLoadRow (i : TI) (row : List AV) (j : Nat) : AR :=
  if i.desc.isAgg then (if j + i.size ≤ row.length then .val (.agg ((row.drop j).take i.size)) else .bad)
  else match row[j]? with | some v => .val v | none => .bad
def aLoadBlk (i : TI) (b : Option Blk) (e j : Nat) : AR := match b with | some (.rows _ xs) => aLoadRow i (rowAt xs e) j | _ => .bad
def aLoadPtr (i : TI) (x : AV) (H : Heap) : AR := match x with
  | .ptr r e j => aLoadBlk i H[r]? e j
  | .cptr row j => aLoadRow i row j
  | _ => .bad
def aLoad (P : Program) (t : TypeId) (x : AV) (H : Heap) : AR := match tinfo P t with | some i => aLoadPtr i x H | none => .bad
theorem loadRow_ok {P : Program} {sn : Snap} {ρ : Env} {H : Heap} {w : World} {t : TypeId} {i : TI} (hi : tinfo P t = some i) {row : List AV} {j b o : Nat}
    (hc : ∀ (k : Nat) x, row[k]? = some x → ∃ v, w.cell? ⟨b, o + k, none⟩ = some v ∧ VR sn ρ x v) :
    (aLoadRow i row j).ok P ((asNext (Instr.loadAt t (.pointer (some ⟨b, o + j, none⟩)))).run P w) sn ρ H w := by
  unfold aLoadRow
  split
  · rename_i hag
    split
    · rename_i hlen
      let f : Nat → Value := fun k => (w.cell? ⟨b, o + j + k, none⟩).getD undef
      have hf : ∀ k, k < i.size → ∃ x, row[j + k]? = some x ∧ w.cell? ⟨b, o + j + k, none⟩ = some (f k) ∧ VR sn ρ x (f k) := fun k hk => by
        have hlt : j + k < row.length := by omega
        obtain ⟨v, h1, h2⟩ := hc (j + k) _ (List.getElem?_eq_getElem hlt)
        have h1' : w.cell? ⟨b, o + j + k, none⟩ = some v := by rw [Nat.add_assoc]; exact h1
        have : f k = v := by simp [f, h1']
        exact ⟨_, List.getElem?_eq_getElem hlt, by rw [this]; exact h1', by rw [this]; exact h2⟩
      refine ⟨.agg ((List.range i.size).map f).toArray, ?_, .agg _ _ _ ?_ ?_⟩
      · have hl := run_loadCells (P := P) w ⟨b, o + j, none⟩ i.size f (fun k hk => by rw [add_mk]; exact (hf k hk).choose_spec.2.1)
        simp [Instr.loadAt, Instr.sureAddr, loadVar, run_agg_ti hi, hag, run_size_ti hi, hl]
      · simp; omega
      · intro k x y hx hy
        have hk : k < i.size := by
          have := (Array.getElem?_eq_some_iff.1 hy).1
          simpa using this
        obtain ⟨x', h1, _, h3⟩ := hf k hk
        rw [List.getElem?_take, if_pos hk, List.getElem?_drop] at hx
        rw [h1] at hx
        injection hx with hx
        subst hx
        simp [hk] at hy
        subst hy
        exact h3
    · trivial
  · rename_i hag
    split
    · rename_i v hv
      obtain ⟨u, h1, h2⟩ := hc j v hv
      exact ⟨u, by simp [Instr.loadAt, Instr.sureAddr, loadVar, run_agg_ti hi, hag, h1], h2⟩
    · trivial
theorem aLoad_ok {P : Program} {sn : Snap} {ρ : Env} {H : Heap} {w : World} (hR : Rel sn ρ H w) {t : TypeId} {x : AV} {cx : Value} (hx : VR sn ρ x cx) :
    (aLoad P t x H).ok P ((asNext (Instr.loadAt t cx)).run P w) sn ρ H w := by
  unfold aLoad
  split
  · rename_i i hi
    unfold aLoadPtr
    split
    · rename_i r e j
      unfold aLoadBlk
      split
      · rename_i sz xs hr
        cases hx
        rename_i p hp
        obtain ⟨c, t', fr, h1, h2, h3, h4, h5, h6, h7, h8⟩ := hR.rows hr hp
        refine loadRow_ok hi (fun k x hk => ?_)
        unfold rowAt at hk
        cases hrow : xs[e]? with
        | none => simp [hrow] at hk
        | some row =>
          simp only [hrow, Option.getD_some] at hk
          obtain ⟨v, e1, _, e3⟩ := h7 e row hrow k x hk
          exact ⟨v, by rw [cell_heap h1, h3]; exact e1, e3⟩
      · trivial
    · rename_i row j
      cases hx
      rename_i b o vs hc ho hr
      exact loadRow_ok hi (fun k x hk => ⟨vs k, hR.scell (hc k x hk), (hr k x hk).mono (fun _ _ h => h) (fun _ _ h => by cases h)⟩)
    · trivial
  · trivial
def splice (row : List AV) (j : Nat) (cs : List AV) : List AV := row.take j ++ cs ++ row.drop (j + cs.length)
theorem splice_get {row cs : List AV} {j : Nat} (h : j + cs.length ≤ row.length) (k : Nat) : (splice row j cs)[k]? = if j ≤ k ∧ k < j + cs.length then cs[k - j]? else row[k]? := by
  unfold splice
  rw [List.append_assoc, List.getElem?_append]
  simp only [List.length_take]
  split
  · rename_i h1
    rw [if_neg (by omega), List.getElem?_take, if_pos (by omega)]
  · rename_i h1
    rw [List.getElem?_append]
    split
    · rename_i h2
      rw [if_pos (by omega)]
      congr 1
      omega
    · rename_i h2
      rw [if_neg (by omega), List.getElem?_drop]
      congr 1
      omega
theorem splice_length {row cs : List AV} {j : Nat} (h : j + cs.length ≤ row.length) : (splice row j cs).length = row.length := by
  simp [splice]; omega
def aStoreBlk (i : TI) (b : Option Blk) (r e j : Nat) (cs : Option (List AV)) (H : Heap) : AR := match b, cs with
  | some (.rows sz xs), some cs => .chk (e < xs.length ∧ j + i.size ≤ sz ∧ cs.length = i.size ∧ cs.all AV.one = true) (.upd (H.set r (.rows sz (xs.set e (splice (rowAt xs e) j cs)))) .any)
  | _, _ => .bad
def aStorePtr (i : TI) (x : AV) (cs : Option (List AV)) (H : Heap) : AR := match x with
  | .ptr r e j => aStoreBlk i H[r]? r e j cs H
  | _ => .bad
def aStore (P : Program) (t : TypeId) (x v : AV) (H : Heap) : AR := match tinfo P t with | some i => aStorePtr i x v.cells H | none => .bad
theorem AV.one_of_all {cs : List AV} (h : cs.all AV.one = true) {k : Nat} {c : AV} (hk : cs[k]? = some c) : c.one = true :=
  List.all_eq_true.1 h _ (List.mem_of_getElem? hk)
theorem oneCell_of {sn : Snap} {ρ : Env} {x : AV} {v : Value} (h : VR sn ρ x v) (h1 : x.one = true) : v.oneCell' = true := (h.cells_one h1).2.1
theorem mul_lt_of {i n sz j : Nat} (hi : i < n) (hj : j < sz) : i * sz + j < n * sz := by
  have : (i + 1) * sz ≤ n * sz := Nat.mul_le_mul_right _ hi
  rw [Nat.succ_mul] at this
  omega
theorem mul_inj_of {i i' sz j j' : Nat} (hj : j < sz) (hj' : j' < sz) (h : i * sz + j = i' * sz + j') : i = i' ∧ j = j' := by
  have h1 : (i * sz + j) / sz = i := by rw [Nat.mul_comm, Nat.mul_add_div (by omega)]; simp [Nat.div_eq_of_lt hj]
  have h2 : (i' * sz + j') / sz = i' := by rw [Nat.mul_comm, Nat.mul_add_div (by omega)]; simp [Nat.div_eq_of_lt hj']
  have : i = i' := by rw [← h1, ← h2, h]
  subst this
  exact ⟨rfl, by omega⟩
theorem aStore_ok {P : Program} {sn : Snap} {ρ : Env} {H : Heap} {w : World} (hR : Rel sn ρ H w) {t : TypeId} {x v : AV} {cx cv : Value} (hx : VR sn ρ x cx) (hv : VR sn ρ v cv) :
    (aStore P t x v H).ok P ((asSkip (Instr.storeAt t cx cv)).run P w) sn ρ H w := by
  unfold aStore
  split
  · rename_i i hi
    unfold aStorePtr
    split
    · rename_i r e j
      unfold aStoreBlk
      split
      · rename_i sz xs cs hr hcs
        rintro ⟨he, hj, hl, hone⟩
        cases hx
        rename_i p hp
        obtain ⟨c, t', fr, h1, h2, h3, h4, h5, h6, h7, h8⟩ := hR.rows hr hp
        obtain ⟨hs, hcell⟩ := hv.cells_ok hcs
        subst h3
        have hrow : xs[e]? = some xs[e] := List.getElem?_eq_getElem he
        have hrl := h6 e _ hrow
        have hra : rowAt xs e = xs[e] := by simp [rowAt, hrow]
        have hfit : e * p.sz + j + cv.cells.toList.length ≤ c.size := by
          have : (e + 1) * p.sz ≤ xs.length * p.sz := Nat.mul_le_mul_right _ he
          rw [Nat.succ_mul] at this
          simp only [Array.length_toList]
          omega
        obtain ⟨c', g1, g2, g3⟩ := run_storeCells_blk P p.b (e * p.sz + j) t' fr cv.cells.toList 0 c w h1 (by simpa using hfit) (fun u hu => by
          obtain ⟨k, hk, rfl⟩ := List.getElem_of_mem hu
          simp only [Array.length_toList] at hk
          have hk' : k < cs.length := by omega
          obtain ⟨u, hu1, hu2⟩ := hcell k _ (List.getElem?_eq_getElem hk')
          rw [Array.getElem?_eq_getElem hk] at hu1
          injection hu1 with hu1
          simp only [Array.getElem_toList]
          rw [hu1]
          exact oneCell_of hu2 (AV.one_of_all hone (List.getElem?_eq_getElem hk'))) h8
        have hjl : j + cs.length ≤ (rowAt xs e).length := by rw [hra, hrl, hl]; exact hj
        obtain ⟨r1, r2⟩ := hR.update (blk' := .rows p.sz (xs.set e (splice (rowAt xs e) j cs))) (obj := .cells c' t' fr) hr trivial hp (by
          refine ⟨rfl, h4.trans g2.symm, by simpa [g2] using h5, fun a row ha => ?_, fun a row ha k y hk => ?_, by rw [g2]; exact h8⟩
          · rcases getElem?_set_list ha with ⟨rfl, rfl⟩ | ⟨_, ha⟩
            · rw [splice_length hjl, hra, hrl]
            · exact h6 a row ha
          · have hkl : k < p.sz := by
              have hkk := (List.getElem?_eq_some_iff.1 hk).1
              rcases getElem?_set_list ha with ⟨rfl, rfl⟩ | ⟨_, ha⟩
              · rw [splice_length hjl, hra, hrl] at hkk; exact hkk
              · rw [h6 a row ha] at hkk; exact hkk
            rw [g3]
            simp only [Nat.add_zero, Array.length_toList]
            rcases getElem?_set_list ha with ⟨rfl, rfl⟩ | ⟨hae, ha⟩
            · rw [splice_get hjl] at hk
              split at hk
              · rename_i hin
                obtain ⟨u, hu1, hu2⟩ := hcell _ _ hk
                rw [if_pos (by omega)]
                refine ⟨u, ?_, AV.one_of_all hone hk, hu2⟩
                rw [Array.getElem?_toList, ← hu1]
                congr 1
                omega
              · rename_i hout
                rw [if_neg (by omega)]
                rw [hra] at hk
                exact h7 a _ hrow k y hk
            · rw [if_neg]
              · exact h7 a row ha k y hk
              · intro hin
                have : a * p.sz + k = e * p.sz + (k + a * p.sz - e * p.sz) := by omega
                exact hae (mul_inj_of hkl (by omega) this).1)
        refine ⟨undef, _, sn, ρ, .inr ⟨?_, rfl⟩, .any _ _, r1, r2⟩
        have hsz : cv.cells.size = i.size := by omega
        simp [asSkip, Instr.storeAt, Instr.sureAddr, storeVar, run_size_ti hi, hsz, g1]
      · trivial
    · trivial
  · trivial
def aAlloc (P : Program) (t : TypeId) : AR := match tinfo P t with
  | some i => .chk (i.zero.all AV.one = true ∧ i.zero.length = i.size) (.alloc (.rows i.size [i.zero]) (fun n => .ptr n 0 0))
  | none => .bad
def aBox (cs : Option (List AV)) : AR := match cs with
  | some cs => .chk (cs.all AV.one = true) (.alloc (.rows cs.length [cs]) (fun n => .ptr n 0 0))
  | none => .bad
theorem newVar_ok {P : Program} {sn : Snap} {ρ : Env} {H : Heap} {w : World} (hR : Rel sn ρ H w) {t : TypeId} {cv : Value} {cs : List AV} {sz : Nat} (hsz : cs.length = sz) (hone : cs.all AV.one = true) (hs : cv.cells.size = cs.length)
    (hcell : ∀ (k : Nat) c, cs[k]? = some c → ∃ u, cv.cells[k]? = some u ∧ VR sn ρ c u) :
    (AR.alloc (.rows sz [cs]) (fun n => .ptr n 0 0)).ok P ((asNext (do pure (.pointer (some (← newVar t cv))))).run P w) sn ρ H w := by
  have hmono := envPut_mono (p := ⟨w.heap.size, sz, cv.cells.size⟩) (hR.top _ (Nat.le_refl _))
  refine ⟨.cells cv.cells t, .pointer (some ⟨w.heap.size, 0, none⟩), { w with heap := w.heap.push (.cells cv.cells t) }, sz, cv.cells.size, ?_, rfl, rfl, rfl, rfl, trivial, ?_, ?_⟩
  · simp [asNext, newVar, newRow]
  · refine ⟨rfl, rfl, by simp; omega, fun a row ha => ?_, fun a row ha k x hk => ?_, fun o ho => by simp⟩
    · cases a <;> simp at ha
      subst ha; exact hsz
    · cases a <;> simp at ha
      subst ha
      obtain ⟨u, h1, h2⟩ := hcell k x hk
      exact ⟨u, by simpa using h1, AV.one_of_all hone hk, h2.mono (fun _ _ h => h) hmono⟩
  · have := VR.ptr (sn := sn) (envPut ρ H.length ⟨w.heap.size, sz, cv.cells.size⟩) H.length 0 0 _ (envPut_same _ _ _)
    simpa using this
theorem aAlloc_ok {P : Program} {sn : Snap} {ρ : Env} {H : Heap} {w : World} (hR : Rel sn ρ H w) (t : TypeId) (old : Value) :
    (aAlloc P t).ok P ((asNext (Instr.alloc t true old)).run P w) sn ρ H w := by
  unfold aAlloc
  split
  · rename_i i hi
    rintro ⟨hone, hl⟩
    obtain ⟨z, hz1, hz2⟩ := run_zero_ti hi w
    have hl2 : z.cells.size = i.zero.length := by rw [hz2]; simp
    have := newVar_ok (P := P) hR (t := t) (cv := z) (cs := i.zero) hl hone hl2 (fun k c hk => by
      rw [hz2] at hk
      simp only [List.getElem?_map, Option.map_eq_some_iff] at hk
      obtain ⟨u, h1, rfl⟩ := hk
      exact ⟨u, by simpa using h1, ofV_ok _ _ _⟩)
    have he : (asNext (Instr.alloc t true old)).run P w = (asNext (do pure (.pointer (some (← newVar t z))))).run P w := by
      cases old <;> simp [asNext, Instr.alloc, hz1]
    rw [he]
    exact this
  · trivial
theorem aBox_ok {P : Program} {sn : Snap} {ρ : Env} {H : Heap} {w : World} (hR : Rel sn ρ H w) (t : TypeId) {x : AV} {cx : Value} (hx : VR sn ρ x cx) :
    (aBox x.cells).ok P ((asNext (Instr.box t cx)).run P w) sn ρ H w := by
  unfold aBox
  split
  · rename_i cs hcs
    intro hone
    obtain ⟨h1, h2⟩ := hx.cells_ok hcs
    exact newVar_ok hR rfl hone h1 h2
  · trivial
end Go.AM
set_option linter.unusedVariables false
set_option linter.unusedSimpArgs false
namespace Go.AM
theorem VR.view_inv {sn : Snap} {ρ : Env} {full : Bool} {sz : Nat} {xs : List (List AV)} {v : Value} (h : VR sn ρ (.view full sz xs) v) : ∃ (a : Option Addr) (b o c : Nat) (vs : Nat → Nat → Value), v = .slice a xs.length c ∧
    xs.length ≤ c ∧ c ≤ maxLen ∧ (full = true → c = xs.length) ∧ (xs ≠ [] → a = some ⟨b, o, none⟩) ∧ (∀ (i : Nat) (row : List AV), xs[i]? = some row → row.length = sz) ∧
    (∀ (i : Nat) (row : List AV), xs[i]? = some row → ∀ (j : Nat) x, row[j]? = some x → scell sn b (o + (i * sz + j)) = some (vs i j)) ∧
    (∀ (i : Nat) (row : List AV), xs[i]? = some row → ∀ (j : Nat) x, row[j]? = some x → x.one = true) ∧
    (∀ (i : Nat) (row : List AV), xs[i]? = some row → ∀ (j : Nat) x, row[j]? = some x → VR sn noEnv x (vs i j)) := by
  cases h with
  | view _ _ _ _ a b o c vs hl hm hf ha hz hc ho hr => exact ⟨a, b, o, c, vs, rfl, hl, hm, hf, ha, hz, hc, ho, hr⟩
theorem VR.sl_inv {sn : Snap} {ρ : Env} {r off len : Nat} {cap : Option Nat} {v : Value} (h : VR sn ρ (.sl r off len cap) v) : ∃ (a : Option Addr) (c : Nat), v = .slice a len c ∧ len ≤ c ∧ c ≤ maxLen ∧ (∀ k, cap = some k → c = k) ∧
    (c = 0 ∨ ∃ p, ρ r = some p ∧ a = some ⟨p.b, off * p.sz, none⟩ ∧ (off + c) * p.sz ≤ p.n) := by
  cases h with
  | sl _ _ _ _ c _ ad p h ha hl hm hn hc =>
    refine ⟨_, c, rfl, hl, hm, hc, ?_⟩
    by_cases e : c = 0
    · exact .inl e
    · exact .inr ⟨p, h, by rw [ha e], hn⟩
  | sl0 _ _ _ _ a hc => exact ⟨a, 0, rfl, Nat.le_refl _, by simp [maxLen], fun k hk => (hc k hk).symm, .inl rfl⟩
def aFieldAddrPtr (off : Nat) (x : AV) : AR := match x with
  | .ptr r e j => .val (.ptr r e (j + off))
  | .cptr row j => .val (.cptr row (j + off))
  | _ => .bad
def aFieldAddr (P : Program) (t : TypeId) (x : AV) (f : Nat) : AR := match tinfo P t with
  | some ⟨_, _, _, .struct fs⟩ => match fs[f]? with
    | some (off, ft) => match tinfo P ft with
      | some i => if i.size = 0 then .bad else aFieldAddrPtr off x
      | none => .bad
    | none => .bad
  | _ => .bad
theorem VR.ptr' {sn : Snap} {ρ : Env} {r i j : Nat} {p : Place} (h : ρ r = some p) {o : Nat} (ho : o = i * p.sz + j) : VR sn ρ (.ptr r i j) (.pointer (some ⟨p.b, o, none⟩)) := by subst ho; exact .ptr _ _ _ _ _ h
theorem VR.cptr' {sn : Snap} {ρ : Env} {row : List AV} {j b o : Nat} {vs : Nat → Value} (hc : ∀ (k : Nat) x, row[k]? = some x → scell sn b (o + k) = some (vs k)) (ho : ∀ (k : Nat) x, row[k]? = some x → x.one = true)
    (hr : ∀ (k : Nat) x, row[k]? = some x → VR sn noEnv x (vs k)) {q : Nat} (hq : q = o + j) : VR sn ρ (.cptr row j) (.pointer (some ⟨b, q, none⟩)) := by subst hq; exact .cptr _ _ _ _ _ vs hc ho hr
theorem aFieldAddr_ok {P : Program} {sn : Snap} {ρ : Env} {H : Heap} {w : World} {t : TypeId} {x : AV} {f : Nat} {cx : Value} (hx : VR sn ρ x cx) :
    (aFieldAddr P t x f).ok P ((asNext (Instr.fieldAt t cx f)).run P w) sn ρ H w := by
  unfold aFieldAddr
  split
  · rename_i sz by_ ze fs ht
    obtain ⟨d, hd, hdd, hun⟩ := run_under_ti ht w
    split
    · rename_i off ft hf
      split
      · rename_i i hi
        split
        · trivial
        · rename_i hsz
          cases d <;> simp [TD.of] at hdd
          rename_i fields
          subst hdd
          simp only [List.getElem?_map, Option.map_eq_some_iff] at hf
          obtain ⟨fl, hfl, he⟩ := hf
          simp only [Prod.mk.injEq] at he
          obtain ⟨rfl, rfl⟩ := he
          have hfl' : fields[f]? = some fl := by simpa using hfl
          unfold aFieldAddrPtr
          split
          · rename_i r e j
            cases hx
            rename_i p hp
            refine ⟨.pointer (some ⟨p.b, e * p.sz + j + fl.offset, none⟩), ?_, VR.ptr' hp (by omega)⟩
            simp [asNext, Instr.fieldAt, hd, hfl', Instr.sureAddr, fieldPlace, run_size_ti hi, hsz, add_mk]
          · rename_i row j
            cases hx
            rename_i b o vs hc ho hr
            refine ⟨.pointer (some ⟨b, o + j + fl.offset, none⟩), ?_, VR.cptr' hc ho hr (by omega)⟩
            simp [asNext, Instr.fieldAt, hd, hfl', Instr.sureAddr, fieldPlace, run_size_ti hi, hsz, add_mk]
          · trivial
      · trivial
    · trivial
  · trivial
def aIndexBlk (esz : Nat) (b : Option Blk) (r off len : Nat) (n : Int) : AR := match b with
  | some (.rows sz xs) => if sz = esz then .chk (0 ≤ n ∧ n < (len : Int)) (.val (.ptr r (off + n.toNat) 0)) else .bad
  | _ => .bad
def aIndexSl (esz : Nat) (x : AV) (n : Int) (H : Heap) : AR := match x with
  | .view _ sz xs => .chk (0 ≤ n ∧ n < (xs.length : Int) ∧ sz = esz) (.val (.cptr (rowAt xs n.toNat) 0))
  | .sl r off len _ => aIndexBlk esz H[r]? r off len n
  | _ => .bad
def aIndexArr (esz len : Nat) (x : AV) (n : Int) : AR := match x with
  | .ptr r e j => .chk (0 ≤ n ∧ n < (len : Int)) (.val (.ptr r e (j + n.toNat * esz)))
  | .cptr row j => .chk (0 ≤ n ∧ n < (len : Int)) (.val (.cptr row (j + n.toNat * esz)))
  | _ => .bad
def aIndexD (P : Program) (d : TD) (x : AV) (n : Int) (H : Heap) : AR := match d with
  | .slice e => match tinfo P e with | some i => aIndexSl i.size x n H | none => .bad
  | .array len e => match tinfo P e with | some i => aIndexArr i.size len x n | none => .bad
  | _ => .bad
def aIndexAddr (P : Program) (t : TypeId) (x k : AV) (H : Heap) : AR := match tinfo P t, k with
  | some i, .int _ n => aIndexD P i.desc x n H
  | _, _ => .bad
theorem aIndexAddr_ok {P : Program} {sn : Snap} {ρ : Env} {H : Heap} {w : World} (hR : Rel sn ρ H w) {t : TypeId} {x k : AV} {cx ck : Value} (hx : VR sn ρ x cx) (hk : VR sn ρ k ck) :
    (aIndexAddr P t x k H).ok P ((asNext (Instr.indexAt t cx ck)).run P w) sn ρ H w := by
  unfold aIndexAddr
  split
  · rename_i ti kk n ht
    cases hk
    obtain ⟨d, hd, hdd, hun⟩ := run_under_ti ht w
    unfold aIndexD
    split
    · rename_i e he
      rw [hdd] at he
      cases d <;> simp [TD.of] at he
      subst he
      rename_i e
      split
      · rename_i i hi
        unfold aIndexSl
        split
        · rename_i full sz xs
          rintro ⟨h0, h1, hsz⟩
          obtain ⟨a, b, o, c, vs, rfl, hl, hm, hf, ha, hz, hc, ho, hr⟩ := hx.view_inv
          have hne : xs ≠ [] := by intro e; subst e; simp at h1; omega
          have hlt : n.toNat < xs.length := by omega
          have hrow : xs[n.toNat]? = some xs[n.toNat] := List.getElem?_eq_getElem hlt
          have := ha hne
          subst this
          refine ⟨.pointer (some ⟨b, o + n.toNat * i.size, none⟩), ?_, VR.cptr' (o := o + n.toNat * sz) (vs := vs n.toNat) ?_ ?_ ?_ (by rw [hsz]; omega)⟩
          · have hlt' : n < (xs.length : Int) := h1
            simp [asNext, Instr.indexAt, asIntOf, hd, h0, hlt', run_size_ti hi, add_mk]
          · intro k y hky
            simp only [rowAt, hrow, Option.getD_some] at hky
            have := hc _ _ hrow k y hky
            rwa [Nat.add_assoc]
          · intro k y hky
            simp only [rowAt, hrow, Option.getD_some] at hky
            exact ho _ _ hrow k y hky
          · intro k y hky
            simp only [rowAt, hrow, Option.getD_some] at hky
            exact hr _ _ hrow k y hky
        · rename_i r off len cap
          unfold aIndexBlk
          split
          · rename_i sz xs hr
            split
            · rename_i hsz
              rintro ⟨h0, h1⟩
              obtain ⟨a, c, rfl, hl, hm, hcc, hcase⟩ := hx.sl_inv
              rcases hcase with e0 | ⟨p, hp, rfl, hn⟩
              · omega
              obtain ⟨cc, t', fr, _, _, h3, _⟩ := hR.rows hr hp
              refine ⟨.pointer (some ⟨p.b, off * p.sz + n.toNat * i.size, none⟩), ?_, VR.ptr' hp (by rw [← hsz, ← h3, Nat.add_mul]; omega)⟩
              simp [asNext, Instr.indexAt, asIntOf, hd, h0, h1, run_size_ti hi, add_mk]
            · trivial
          · trivial
        · trivial
      · trivial
    · rename_i len e he
      rw [hdd] at he
      cases d <;> simp [TD.of] at he
      obtain ⟨rfl, rfl⟩ := he
      rename_i len e
      split
      · rename_i i hi
        unfold aIndexArr
        split
        · rename_i r e2 j
          rintro ⟨h0, h1⟩
          cases hx
          rename_i p hp
          refine ⟨.pointer (some ⟨p.b, e2 * p.sz + j + n.toNat * i.size, none⟩), ?_, VR.ptr' hp (by omega)⟩
          simp [asNext, Instr.indexAt, asIntOf, hd, h0, h1, run_size_ti hi, add_mk, Instr.sureAddr]
        · rename_i row j
          rintro ⟨h0, h1⟩
          cases hx
          rename_i b o vs hc ho hr
          refine ⟨.pointer (some ⟨b, o + j + n.toNat * i.size, none⟩), ?_, VR.cptr' hc ho hr (by omega)⟩
          simp [asNext, Instr.indexAt, asIntOf, hd, h0, h1, run_size_ti hi, add_mk, Instr.sureAddr]
        · trivial
      · trivial
    · trivial
  · trivial
def aLen (P : Program) (t : TypeId) (x : AV) : AR := match tinfo P t with
  | some i => match i.desc, x with
    | .slice _, .view _ _ xs => .val (.int .i64 (xs.length : Int))
    | .slice _, .sl _ _ len _ => .val (.int .i64 (len : Int))
    | .str, .str s => .val (.int .i64 (s.size : Int))
    | .array n _, _ => .val (.int .i64 (n : Int))
    | _, _ => .bad
  | none => .bad
theorem aLen_ok {P : Program} {sn : Snap} {ρ : Env} {H : Heap} {w : World} {t u : TypeId} {x : AV} {cx : Value} (hx : VR sn ρ x cx) :
    (aLen P t x).ok P ((asNext (Builtin.len_ #[t] u #[cx])).run P w) sn ρ H w := by
  unfold aLen
  split
  · rename_i i ht
    obtain ⟨d, hd, hdd, hun⟩ := run_under_ti ht w
    split
    · rename_i e full sz xs he
      rw [hdd] at he
      cases d <;> simp [TD.of] at he
      cases hx
      exact ⟨_, by simp [asNext, Builtin.len_, hd, goInt], .int _ _ _⟩
    · rename_i e r off len cap he
      rw [hdd] at he
      cases d <;> simp [TD.of] at he
      obtain ⟨a, c, rfl, _⟩ := hx.sl_inv
      exact ⟨_, by simp [asNext, Builtin.len_, hd, goInt], .int _ _ _⟩
    · rename_i s he
      rw [hdd] at he
      cases d <;> simp [TD.of] at he
      cases hx
      exact ⟨_, by simp [asNext, Builtin.len_, hd, goInt], .int _ _ _⟩
    · rename_i n e he
      rw [hdd] at he
      cases d <;> simp [TD.of] at he
      obtain ⟨rfl, rfl⟩ := he
      exact ⟨_, by simp [asNext, Builtin.len_, hd, goInt], .int _ _ _⟩
    · trivial
  · trivial
def aCap (P : Program) (t : TypeId) (x : AV) : AR := match tinfo P t with
  | some i => match i.desc, x with
    | .slice _, .view true _ xs => .val (.int .i64 (xs.length : Int))
    | .slice _, .sl _ _ _ (some c) => .val (.int .i64 (c : Int))
    | .array n _, _ => .val (.int .i64 (n : Int))
    | _, _ => .bad
  | none => .bad
theorem aCap_ok {P : Program} {sn : Snap} {ρ : Env} {H : Heap} {w : World} {t u : TypeId} {x : AV} {cx : Value} (hx : VR sn ρ x cx) :
    (aCap P t x).ok P ((asNext (Builtin.cap_ #[t] u #[cx])).run P w) sn ρ H w := by
  unfold aCap
  split
  · rename_i i ht
    obtain ⟨d, hd, hdd, hun⟩ := run_under_ti ht w
    split
    · rename_i e sz xs he
      rw [hdd] at he
      cases d <;> simp [TD.of] at he
      obtain ⟨a, b, o, c, vs, rfl, hle, hmx, hf, _⟩ := hx.view_inv
      have hc := hf rfl
      subst hc
      exact ⟨_, by simp [asNext, Builtin.cap_, hd, goInt], .int _ _ _⟩
    · rename_i e r off len cap he
      rw [hdd] at he
      cases d <;> simp [TD.of] at he
      obtain ⟨a, c, rfl, _, _, hcc, _⟩ := hx.sl_inv
      have hc := hcc _ rfl
      subst hc
      exact ⟨_, by simp [asNext, Builtin.cap_, hd, goInt], .int _ _ _⟩
    · rename_i n e he
      rw [hdd] at he
      cases d <;> simp [TD.of] at he
      obtain ⟨rfl, rfl⟩ := he
      exact ⟨_, by simp [asNext, Builtin.cap_, hd, goInt], .int _ _ _⟩
    · trivial
  · trivial
theorem VR.view_sub {sn : Snap} {ρ : Env} {full : Bool} {sz : Nat} {xs : List (List AV)} {a : Option Addr} {n c : Nat} (hx : VR sn ρ (.view full sz xs) (.slice a n c)) {l h m : Nat} (hl : l ≤ h) (hh : h ≤ xs.length) (hm : h ≤ m) (hc : m ≤ c)
    {full' : Bool} (hf : full' = true → h = m) {esz : Nat} (hsz : xs = [] ∨ esz = sz) : VR sn ρ (.view full' sz ((xs.take h).drop l)) (.slice (if m = l then a else a.map (·.add (l * esz))) (h - l) (m - l)) := by
  obtain ⟨a', b, o, c', vs, he, hle, hmx, hfu, ha, hz, hcl, ho, hr⟩ := hx.view_inv
  injection he with e1 e2 e3
  subst e1 e2 e3
  have hlen : ((xs.take h).drop l).length = h - l := by simp; omega
  rw [← hlen]
  have hget : ∀ (i : Nat) row, ((xs.take h).drop l)[i]? = some row → i < h - l ∧ xs[l + i]? = some row := fun i row hi => by
    have h1 := (List.getElem?_eq_some_iff.1 hi).1
    rw [hlen] at h1
    rw [List.getElem?_drop, List.getElem?_take, if_pos (by omega)] at hi
    exact ⟨h1, hi⟩
  refine .view ρ full' sz _ _ b (o + l * sz) (m - l) (fun i j => vs (l + i) j) (by rw [hlen]; omega) (by omega) (fun hf' => by rw [hlen]; have := hf hf'; omega) (fun hne => ?_) ?_ ?_ ?_ ?_
  · have hpos : 0 < h - l := by
      rw [← hlen]; exact List.length_pos_iff.2 hne
    have hxs : xs ≠ [] := by intro e; subst e; simp at hh; omega
    rw [if_neg (by omega), ha hxs]
    rcases hsz with e | e
    · exact absurd e hxs
    · rw [e]; simp [add_mk]
  · intro i row hi
    exact hz _ _ (hget i row hi).2
  · intro i row hi j x hj
    have := hcl _ _ (hget i row hi).2 j x hj
    rw [← this]
    congr 1
    rw [Nat.add_mul]; omega
  · intro i row hi j x hj
    exact ho _ _ (hget i row hi).2 j x hj
  · intro i row hi j x hj
    exact hr _ _ (hget i row hi).2 j x hj
end Go.AM
set_option linter.unusedVariables false
set_option linter.unusedSimpArgs false
namespace Go.AM
def RowsR (sn : Snap) (ρ : Env) (sz : Nat) (rows : List (List AV)) (c : Array Value) : Prop :=
  c.size = rows.length * sz ∧ (∀ (i : Nat) (row : List AV), rows[i]? = some row → row.length = sz) ∧
  ∀ (i : Nat) (row : List AV), rows[i]? = some row → ∀ (j : Nat) x, row[j]? = some x → ∃ v, c[i * sz + j]? = some v ∧ x.one = true ∧ VR sn ρ x v
theorem RowsR.append {sn : Snap} {ρ : Env} {sz : Nat} {a b : List (List AV)} {c d : Array Value} (h : RowsR sn ρ sz a c) (k : RowsR sn ρ sz b d) : RowsR sn ρ sz (a ++ b) (c ++ d) := by
  obtain ⟨h1, h2, h3⟩ := h
  obtain ⟨k1, k2, k3⟩ := k
  refine ⟨by simp [h1, k1, Nat.add_mul], fun i row hi => ?_, fun i row hi j x hj => ?_⟩
  · rw [List.getElem?_append] at hi
    split at hi
    · exact h2 _ _ hi
    · exact k2 _ _ hi
  · rw [List.getElem?_append] at hi
    split at hi
    · rename_i hlt
      obtain ⟨v, e1, e2⟩ := h3 _ _ hi j x hj
      have hb : i * sz + j < c.size := (Array.getElem?_eq_some_iff.1 e1).1
      exact ⟨v, by rw [Array.getElem?_append, if_pos hb]; exact e1, e2⟩
    · rename_i hge
      obtain ⟨v, e1, e2⟩ := k3 _ _ hi j x hj
      refine ⟨v, ?_, e2⟩
      have : a.length * sz ≤ i * sz := Nat.mul_le_mul_right _ (by omega)
      rw [Array.getElem?_append, if_neg (by omega), ← e1]
      congr 1
      rw [Nat.sub_mul]
      omega
theorem RowsR.oneCell {sn : Snap} {ρ : Env} {sz : Nat} {rows : List (List AV)} {c : Array Value} (h : RowsR sn ρ sz rows c) : ∀ v ∈ c.toList, v.oneCell' = true := by
  intro v hv
  obtain ⟨h1, h2, h3⟩ := h
  obtain ⟨k, hk, rfl⟩ := List.getElem_of_mem hv
  simp only [Array.length_toList] at hk
  have hsz : 0 < sz := by
    rcases Nat.eq_zero_or_pos sz with e | e
    · subst e; omega
    · exact e
  have hi : k / sz < rows.length := by rw [h1] at hk; exact Nat.div_lt_of_lt_mul (by rw [Nat.mul_comm]; exact hk)
  have hrow : rows[k / sz]? = some rows[k / sz] := List.getElem?_eq_getElem hi
  have hl := h2 _ _ hrow
  have hj : k % sz < rows[k / sz].length := by rw [hl]; exact Nat.mod_lt _ hsz
  obtain ⟨u, e1, e2, e3⟩ := h3 _ _ hrow (k % sz) _ (List.getElem?_eq_getElem hj)
  have : k / sz * sz + k % sz = k := Nat.div_add_mod' k sz
  rw [this, Array.getElem?_eq_getElem hk] at e1
  injection e1 with e1
  simp only [Array.getElem_toList]
  rw [e1]
  exact oneCell_of e3 e2
def aElems (x : AV) (H : Heap) : Option (Nat × List (List AV)) := match x with
  | .view _ sz xs => some (sz, xs)
  | .sl r off len _ => match H[r]? with
    | some (.rows sz xs) => some (sz, (xs.drop off).take len)
    | _ => none
  | .str s => some (1, s.data.toList.map fun b => [.int .u8 (b.toNat : Int)])
  | .rsl r i j len => match H[r]? with
    | some (.rows _ xs) => some (1, (((rowAt xs i).drop j).take len).map fun x => [x])
    | _ => none
  | _ => none
theorem cell_eq {w w1 : World} (h : w1.heap = w.heap) (a : Addr) : w1.cell? a = w.cell? a := by simp [World.cell?, h]
def aLenOf : AV → Nat
  | .view _ _ xs => xs.length
  | .sl _ _ len _ => len
  | .str s => s.size
  | .rsl _ _ _ len => len
  | _ => 0
theorem elems_ok {P : Program} {sn : Snap} {ρ : Env} {H : Heap} {w : World} (hR : Rel sn ρ H w) {x : AV} {cx : Value} (hx : VR sn ρ x cx) {sz : Nat} {rows : List (List AV)} (he : aElems x H = some (sz, rows)) {esz : Nat} (hsz : rows = [] ∨ sz = esz)
    (hlen : rows.length = aLenOf x) : (Builtin.lenOf cx).run P w = .ok rows.length w ∧ ∃ c, (∀ w1 : World, w1.heap = w.heap → (Builtin.firstCells esz rows.length cx).run P w1 = .ok c w1) ∧ RowsR sn ρ esz rows c := by
  unfold aElems at he
  split at he
  · rename_i full sz' xs
    injection he with he
    simp only [Prod.mk.injEq] at he
    obtain ⟨rfl, rfl⟩ := he
    obtain ⟨a, b, o, c, vs, rfl, hl, hm, hf, ha, hz, hcl, ho, hr⟩ := hx.view_inv
    refine ⟨by simp [Builtin.lenOf], ?_⟩
    by_cases hne : xs = []
    · subst hne
      refine ⟨#[], fun w1 hw1 => ?_, by simp [RowsR]⟩
      cases a <;> simp [Builtin.firstCells, loadCells, loadCellsFrom]
    · have hz' : sz' = esz := hsz.resolve_left hne
      subst hz'
      rw [ha hne]
      let f : Nat → Value := fun k => (w.cell? ⟨b, o + k, none⟩).getD undef
      have hcell : ∀ (i : Nat) (row : List AV), xs[i]? = some row → ∀ (j : Nat) y, row[j]? = some y → w.cell? ⟨b, o + (i * sz' + j), none⟩ = some (vs i j) := fun i row hi j y hj => hR.scell (hcl i row hi j y hj)
      have hall : ∀ k, k < xs.length * sz' → w.cell? ⟨b, o + k, none⟩ = some (f k) := fun k hk => by
        have hpos : 0 < sz' := by
          rcases Nat.eq_zero_or_pos sz' with e | e
          · subst e; omega
          · exact e
        have hi : k / sz' < xs.length := Nat.div_lt_of_lt_mul (by rw [Nat.mul_comm]; exact hk)
        have hrow : xs[k / sz']? = some xs[k / sz'] := List.getElem?_eq_getElem hi
        have hj : k % sz' < xs[k / sz'].length := by rw [hz _ _ hrow]; exact Nat.mod_lt _ hpos
        have := hcell _ _ hrow (k % sz') _ (List.getElem?_eq_getElem hj)
        rw [Nat.div_add_mod'] at this
        simp only [f, this, Option.getD_some]
      refine ⟨((List.range (xs.length * sz')).map f).toArray, fun w1 hw1 => by
        have hl := run_loadCells (P := P) w1 ⟨b, o, none⟩ (xs.length * sz') f (fun k hk => by rw [add_mk, cell_eq hw1]; exact hall k hk)
        simp [Builtin.firstCells, hl], by simp, hz, fun i row hi j y hj => ?_⟩
      have hjl := (List.getElem?_eq_some_iff.1 hj).1
      rw [hz i row hi] at hjl
      have hil := (List.getElem?_eq_some_iff.1 hi).1
      have hlt := mul_lt_of hil hjl
      refine ⟨f (i * sz' + j), by simp [hlt], ho i row hi j y hj, ?_⟩
      have : f (i * sz' + j) = vs i j := by simp only [f, hcell i row hi j y hj, Option.getD_some]
      rw [this]
      exact (hr i row hi j y hj).mono (fun _ _ h => h) (fun _ _ h => by cases h)
  · rename_i r off len cap
    split at he
    · rename_i sz' xs hrow0
      injection he with he
      simp only [Prod.mk.injEq] at he
      obtain ⟨rfl, rfl⟩ := he
      obtain ⟨a, c, rfl, hl, hm, hcc, hcase⟩ := hx.sl_inv
      simp only [aLenOf] at hlen
      refine ⟨by simp [Builtin.lenOf]; simpa using hlen.symm, ?_⟩
      by_cases h0 : len = 0
      · subst h0
        have e : List.take 0 (List.drop off xs) = [] := by simp
        rw [e]
        refine ⟨#[], fun w1 hw1 => ?_, by simp [RowsR]⟩
        cases a <;> simp [Builtin.firstCells, loadCells, loadCellsFrom]
      · rcases hcase with e0 | ⟨p, hp, rfl, hn⟩
        · omega
        obtain ⟨cc, t', fr, h1, h2, h3, h4, h5, h6, h7, h8⟩ := hR.rows hrow0 hp
        have hne : (xs.drop off).take len ≠ [] := by
          intro e
          rw [e] at hlen
          simp at hlen
          omega
        have hz' : sz' = esz := hsz.resolve_left hne
        subst hz'
        rw [hlen]
        have hfit : off + len ≤ xs.length := by simp at hlen; omega
        have hget : ∀ (i : Nat) row, ((xs.drop off).take len)[i]? = some row → i < len ∧ xs[off + i]? = some row := fun i row hi => by
          have := (List.getElem?_eq_some_iff.1 hi).1
          rw [hlen] at this
          rw [List.getElem?_take, if_pos this, List.getElem?_drop] at hi
          exact ⟨this, hi⟩
        let f : Nat → Value := fun k => (w.cell? ⟨p.b, off * p.sz + k, none⟩).getD undef
        have hsize : (off + len) * sz' ≤ cc.size := Nat.le_trans (Nat.mul_le_mul_right _ hfit) h5
        have hall : ∀ k, k < len * sz' → w.cell? ⟨p.b, off * p.sz + k, none⟩ = some (f k) := fun k hk => by
          have hlt : off * p.sz + k < cc.size := by rw [h3]; rw [Nat.add_mul] at hsize; omega
          have : w.cell? ⟨p.b, off * p.sz + k, none⟩ = some cc[off * p.sz + k] := by rw [cell_heap h1]; exact Array.getElem?_eq_getElem hlt
          simp only [f, this, Option.getD_some]
        refine ⟨((List.range (len * sz')).map f).toArray, fun w1 hw1 => by
          have hld := run_loadCells (P := P) w1 ⟨p.b, off * p.sz, none⟩ (len * sz') f (fun k hk => by rw [add_mk, cell_eq hw1]; exact hall k hk)
          simp [Builtin.firstCells, hld], by simp only [List.size_toArray, List.length_map, List.length_range]; rw [hlen], fun i row hi => h6 _ _ (hget i row hi).2, fun i row hi j y hj => ?_⟩
        obtain ⟨hil, hi'⟩ := hget i row hi
        have hjl := (List.getElem?_eq_some_iff.1 hj).1
        rw [h6 _ row hi'] at hjl
        have hlt := mul_lt_of hil hjl
        obtain ⟨v, e1, e2, e3⟩ := h7 _ _ hi' j y hj
        refine ⟨v, ?_, e2, e3⟩
        have hce : w.cell? ⟨p.b, off * p.sz + (i * sz' + j), none⟩ = some v := by
          rw [cell_heap h1, ← e1, h3]
          congr 1
          rw [Nat.add_mul]
          omega
        simp [hlt, f, hce]
    · cases he
  · rename_i s
    injection he with he
    simp only [Prod.mk.injEq] at he
    obtain ⟨rfl, rfl⟩ := he
    cases hx
    have hse : (s.data.toList.map fun b => ([AV.int .u8 (b.toNat : Int)])).length = s.size := by rw [List.length_map, Array.length_toList]; rfl
    refine ⟨by rw [hse]; simp [Builtin.lenOf], ?_⟩
    rw [hse]
    have hext : (s.extract 0 s.size).data = s.data := by rw [ByteArray.data_extract]; exact Array.extract_size
    refine ⟨s.data.map fun b => .int .u8 b.toNat, fun w1 _ => by simp [Builtin.firstCells, hext], ?_⟩
    rcases hsz with e | e
    · have : s.data.toList = [] := by simpa using e
      have h0 : s.data = #[] := by simpa using this
      rw [h0]
      exact ⟨by simp, by simp, by simp⟩
    · subst e
      refine ⟨by simp, fun i row hi => ?_, fun i row hi j y hj => ?_⟩
      · simp only [List.getElem?_map, Option.map_eq_some_iff] at hi
        obtain ⟨b, _, rfl⟩ := hi
        rfl
      · simp only [List.getElem?_map, Option.map_eq_some_iff] at hi
        obtain ⟨b, hb, rfl⟩ := hi
        cases j with
        | zero =>
          simp at hj
          subst hj
          exact ⟨.int .u8 b.toNat, by simp only [Nat.mul_one, Nat.add_zero, Array.getElem?_map]; rw [← Array.getElem?_toList, hb]; rfl, rfl, .int _ _ _⟩
        | succ j => simp at hj
  · rename_i r i j len
    split at he
    · rename_i sz' xs hrow0
      injection he with he
      simp only [Prod.mk.injEq] at he
      obtain ⟨rfl, rfl⟩ := he
      cases hx
      rename_i p hp hm
      simp only [aLenOf] at hlen
      refine ⟨by simp [Builtin.lenOf]; simpa using hlen.symm, ?_⟩
      by_cases h0 : len = 0
      · subst h0
        refine ⟨#[], fun w1 hw1 => ?_, by simp [RowsR]⟩
        simp [Builtin.firstCells, loadCells, loadCellsFrom]
      · obtain ⟨cc, t', fr, h1, h2, h3, h4, h5, h6, h7, h8⟩ := hR.rows hrow0 hp
        have hl2 : (((rowAt xs i).drop j).take len).length = len := by simpa using hlen
        have hne : (((rowAt xs i).drop j).take len).map (fun x => [x]) ≠ [] := by
          intro e
          rw [e] at hlen
          simp at hlen
          omega
        have hz' : 1 = esz := hsz.resolve_left hne
        subst hz'
        rw [hlen]
        have hfit : j + len ≤ (rowAt xs i).length := by simp at hl2; omega
        have hrow : xs[i]? = some (rowAt xs i) := by
          unfold rowAt at hfit ⊢
          cases hx : xs[i]? with
          | none => rw [hx] at hfit; simp at hfit; omega
          | some row => rfl
        have hrl := h6 _ _ hrow
        have hcell : ∀ k, k < len → ∃ y v, (rowAt xs i)[j + k]? = some y ∧ w.cell? ⟨p.b, i * p.sz + j + k, none⟩ = some v ∧ y.one = true ∧ VR sn ρ y v := fun k hk => by
          have hjk : j + k < (rowAt xs i).length := by omega
          obtain ⟨v, e1, e2, e3⟩ := h7 _ _ hrow (j + k) _ (List.getElem?_eq_getElem hjk)
          refine ⟨_, v, List.getElem?_eq_getElem hjk, ?_, e2, e3⟩
          rw [cell_heap h1, ← e1, h3, Nat.add_assoc]
        let f : Nat → Value := fun k => (w.cell? ⟨p.b, i * p.sz + j + k, none⟩).getD undef
        have hall : ∀ k, k < len * 1 → w.cell? ⟨p.b, i * p.sz + j + k, none⟩ = some (f k) := fun k hk => by
          obtain ⟨y, v, _, e, _⟩ := hcell k (by omega)
          simp only [f, e, Option.getD_some]
        refine ⟨((List.range (len * 1)).map f).toArray, fun w1 hw1 => by
          have hld := run_loadCells (P := P) w1 ⟨p.b, i * p.sz + j, none⟩ (len * 1) f (fun k hk => by rw [add_mk, cell_eq hw1]; exact hall k hk)
          simp only [Nat.mul_one] at hld ⊢
          simp [Builtin.firstCells, hld], by simp only [List.size_toArray, List.length_map, List.length_range]; rw [hl2], fun i' row hi => ?_, fun i' row hi j' y hj => ?_⟩
        · simp only [List.getElem?_map, Option.map_eq_some_iff] at hi
          obtain ⟨x, _, rfl⟩ := hi
          rfl
        · simp only [List.getElem?_map, Option.map_eq_some_iff] at hi
          obtain ⟨x, hx, rfl⟩ := hi
          have hil := (List.getElem?_eq_some_iff.1 hx).1
          rw [hl2] at hil
          cases j' with
          | zero =>
            simp at hj
            subst hj
            obtain ⟨y, v, e1, e2, e3, e4⟩ := hcell i' hil
            rw [List.getElem?_take, if_pos hil, List.getElem?_drop, e1] at hx
            injection hx with hx
            subst hx
            exact ⟨v, by simp [hil, f, e2], e3, e4⟩
          | succ j' => simp at hj
    · cases he
  · cases he
end Go.AM
set_option linter.unusedVariables false
set_option linter.unusedSimpArgs false
namespace Go.AM
def OptR (sn : Snap) (ρ : Env) : Option AV → Option Value → Prop
  | none, none => True
  | some x, some v => VR sn ρ x v
  | _, _ => False
inductive Bd where
  | no | num (n : Int) | bad
def Bd.of : Option AV → Bd
  | none => .no
  | some (.int _ n) => .num n
  | _ => .bad
def capD : Option Nat → Nat → Nat
  | none, len => len
  | some c, _ => c
theorem capD_le {cap : Option Nat} {len c : Nat} (h : len ≤ c) (hc : ∀ k, cap = some k → c = k) : capD cap len ≤ c := by
  cases cap with
  | none => exact h
  | some k => rw [hc k rfl]; exact Nat.le_refl _
def aSliceSl2 (b : Option Blk) (esz r off len : Nat) (cap : Option Nat) (lo : Int) (hi mx : Bd) : AR := match b with
  | some (.rows sz xs) => if sz = esz then
      match hi, mx with
      | .no, .no => .chk (0 ≤ lo ∧ lo ≤ (len : Int)) (.val (.sl r (off + lo.toNat) (len - lo.toNat) (cap.map (· - lo.toNat))))
      | .num h, .no => .chk (0 ≤ lo ∧ lo ≤ h ∧ h ≤ (capD cap len : Int)) (.val (.sl r (off + lo.toNat) (h.toNat - lo.toNat) (cap.map (· - lo.toNat))))
      | .num h, .num m => .chk (0 ≤ lo ∧ lo ≤ h ∧ h ≤ m ∧ m ≤ (capD cap len : Int)) (.val (.sl r (off + lo.toNat) (h.toNat - lo.toNat) (some (m.toNat - lo.toNat))))
      | _, _ => .bad
    else .bad
  | _ => .bad
def aSliceView2 (esz : Nat) (full : Bool) (sz : Nat) (xs : List (List AV)) (lo : Int) (hi mx : Bd) : AR :=
  match hi, mx with
  | .no, .no => .chk (0 ≤ lo ∧ lo ≤ (xs.length : Int) ∧ (sz = esz ∨ xs = [])) (.val (.view full sz (xs.drop lo.toNat)))
  | .num h, .no => .chk (0 ≤ lo ∧ lo ≤ h ∧ h ≤ (xs.length : Int) ∧ (sz = esz ∨ xs = [])) (.val (.view false sz ((xs.take h.toNat).drop lo.toNat)))
  | .num h, .num m => .chk (0 ≤ lo ∧ lo ≤ h ∧ h ≤ m ∧ m ≤ (xs.length : Int) ∧ (sz = esz ∨ xs = [])) (.val (.view (decide (h = m)) sz ((xs.take h.toNat).drop lo.toNat)))
  | _, _ => .bad
def aSliceStr (s : ByteArray) (lo : Int) (hi mx : Bd) : AR :=
  match hi, mx with
  | .no, .no => .chk (0 ≤ lo ∧ lo ≤ (s.size : Int)) (.val (.str (s.extract lo.toNat s.size)))
  | .num h, .no => .chk (0 ≤ lo ∧ lo ≤ h ∧ h ≤ (s.size : Int)) (.val (.str (s.extract lo.toNat h.toNat)))
  | _, _ => .bad
def aSliceV (esz : Nat) (x : AV) (H : Heap) (lo : Int) (hi mx : Bd) : AR := match x with
  | .view full sz xs => aSliceView2 esz full sz xs lo hi mx
  | .sl r off len cap => aSliceSl2 H[r]? esz r off len cap lo hi mx
  | _ => .bad
def Bd.lo : Bd → Option Int
  | .no => some 0
  | .num n => some n
  | .bad => none
def aSliceArr (esz n : Nat) (x : AV) (lo : Int) (hi mx : Bd) : AR := match hi, mx, x with
  | .no, .no, .ptr r i j => .chk (lo = 0 ∧ esz = 1 ∧ n ≤ 1099511627776) (.val (.rsl r i j n))
  | .no, .no, .cptr row j => .chk (lo = 0 ∧ esz = 1 ∧ n ≤ 1099511627776 ∧ j + n ≤ row.length) (.val (.view true 1 (((row.drop j).take n).map fun x => [x])))
  | _, _, _ => .bad
def aSliceD (P : Program) (d : TD) (x : AV) (H : Heap) (lo : Option Int) (hi mx : Bd) : AR := match d, lo, x with
  | .slice e, some l, x => match tinfo P e with | some i => aSliceV i.size x H l hi mx | none => .bad
  | .str, some l, .str s => aSliceStr s l hi mx
  | .array n e, some l, x => match tinfo P e with | some i => aSliceArr i.size n x l hi mx | none => .bad
  | _, _, _ => .bad
def aSlice (P : Program) (t : TypeId) (x : AV) (H : Heap) (lo hi mx : Option AV) : AR := match tinfo P t with
  | some i => aSliceD P i.desc x H (Bd.of lo).lo (Bd.of hi) (Bd.of mx)
  | none => .bad
theorem run_bound {P : Program} {k : IntKind} {n : Int} {y : Nat} (h0 : 0 ≤ n) (h1 : n ≤ y) (code : BoundsCode) (w : World) : (Instr.sliceBound (.int k n) y code).run P w = .ok n.toNat w := by
  simp [Instr.sliceBound, asIntOf, h0, h1]
theorem OptR.none_of {sn : Snap} {ρ : Env} {x : Option AV} {v : Option Value} (h : OptR sn ρ x v) (e : Bd.of x = .no) : v = none := by
  cases x with
  | none => cases v with
    | none => rfl
    | some v => exact h.elim
  | some x => cases x <;> simp [Bd.of] at e
theorem run_bounds {P : Program} {sn : Snap} {ρ : Env} {b : Bool} {len cap : Nat} (hlc : len ≤ cap) {lo hi mx : Option AV} {cl ch cm : Option Value} (hl : OptR sn ρ lo cl) (hh : OptR sn ρ hi ch) (hm : OptR sn ρ mx cm)
    {l : Int} (el : (Bd.of lo).lo = some l) (h0 : 0 ≤ l) (w : World) :
    ((Bd.of hi = .no → Bd.of mx = .no → l ≤ len → (Instr.sliceBounds b len cap cl ch cm).run P w = .ok (l.toNat, len, cap) w)) ∧
    (∀ h, Bd.of hi = .num h → Bd.of mx = .no → l ≤ h → h ≤ cap → (Instr.sliceBounds b len cap cl ch cm).run P w = .ok (l.toNat, h.toNat, cap) w) ∧
    (∀ h m, Bd.of hi = .num h → Bd.of mx = .num m → l ≤ h → h ≤ m → m ≤ cap → (Instr.sliceBounds b len cap cl ch cm).run P w = .ok (l.toNat, h.toNat, m.toNat) w) := by
  have key : (cl = none ∧ l = 0) ∨ ∃ k, cl = some (.int k l) := by
    cases lo with
    | none => cases cl <;> simp [OptR] at hl; simp [Bd.of, Bd.lo] at el; exact .inl ⟨rfl, el.symm⟩
    | some x =>
      cases cl <;> simp [OptR] at hl
      cases x <;> simp [Bd.of, Bd.lo] at el
      subst el
      cases hl
      exact .inr ⟨_, rfl⟩
  have num : ∀ (x : Option AV) (v : Option Value), OptR sn ρ x v → ∀ n, Bd.of x = .num n → ∃ k, v = some (.int k n) := by
    intro x v hx n hn
    cases x with
    | none => simp [Bd.of] at hn
    | some x =>
      cases v <;> simp [OptR] at hx
      cases x <;> simp [Bd.of] at hn
      subst hn
      cases hx
      exact ⟨_, rfl⟩
  have no : ∀ (x : Option AV) (v : Option Value), OptR sn ρ x v → Bd.of x = .no → v = none := by
    intro x v hx hn
    cases x with
    | none => cases v <;> simp [OptR] at hx; rfl
    | some x => cases x <;> simp [Bd.of] at hn
  refine ⟨fun e1 e2 hle => ?_, fun h e1 e2 hlh hhl => ?_, fun h m e1 e2 hlh hhm hml => ?_⟩
  · rw [no _ _ hh e1, no _ _ hm e2]
    rcases key with ⟨rfl, rfl⟩ | ⟨k, rfl⟩
    · simp [Instr.sliceBounds]
    · simp [Instr.sliceBounds, run_bound h0 hle]
  · obtain ⟨k2, rfl⟩ := num _ _ hh h e1
    rw [no _ _ hm e2]
    have a1 : h ≤ (cap : Int) := by omega
    have a2 : l ≤ (h.toNat : Int) := by omega
    rcases key with ⟨rfl, rfl⟩ | ⟨k, rfl⟩
    · simp [Instr.sliceBounds, run_bound (P := P) (k := k2) (show 0 ≤ h by omega) a1]
    · simp [Instr.sliceBounds, run_bound (P := P) (k := k2) (show 0 ≤ h by omega) a1, run_bound (P := P) (k := k) h0 a2]
  · obtain ⟨k2, rfl⟩ := num _ _ hh h e1
    obtain ⟨k3, rfl⟩ := num _ _ hm m e2
    have a0 : m ≤ (cap : Int) := by omega
    have a1 : h ≤ (m.toNat : Int) := by omega
    have a2 : l ≤ (h.toNat : Int) := by omega
    rcases key with ⟨rfl, rfl⟩ | ⟨k, rfl⟩
    · simp [Instr.sliceBounds, run_bound (P := P) (k := k3) (show 0 ≤ m by omega) a0, run_bound (P := P) (k := k2) (show 0 ≤ h by omega) a1]
    · simp [Instr.sliceBounds, run_bound (P := P) (k := k3) (show 0 ≤ m by omega) a0, run_bound (P := P) (k := k2) (show 0 ≤ h by omega) a1, run_bound (P := P) (k := k) h0 a2]
theorem VR.sl_sub {sn : Snap} {ρ : Env} {H : Heap} {w : World} (hR : Rel sn ρ H w) {r off len : Nat} {cap : Option Nat} {a : Option Addr} {c : Nat} {sz : Nat} {xs : List (List AV)} (hr : H[r]? = some (.rows sz xs)) (hx : VR sn ρ (.sl r off len cap) (.slice a len c)) {l h m : Nat} (hl : l ≤ h) (hm : h ≤ m) (hc : m ≤ c)
    {cap' : Option Nat} (hcap : ∀ k, cap' = some k → k = m - l) (hc0 : (∀ k, cap = some k → c = k)) : VR sn ρ (.sl r (off + l) (h - l) cap') (.slice (if m = l then a else a.map (·.add (l * sz))) (h - l) (m - l)) := by
  obtain ⟨a', c', he, hle, hmx, hcc, hcase⟩ := hx.sl_inv
  injection he with e1 e2 e3
  subst e1 e3
  by_cases e : m = l
  · have : h - l = 0 := by omega
    rw [this, if_pos e, show m - l = 0 by omega]
    exact .sl0 _ _ _ _ _ (fun k hk => by have := hcap k hk; omega)
  · rcases hcase with e0 | ⟨p, hp, rfl, hn⟩
    · omega
    obtain ⟨cc, t', fr, _, _, h3, _⟩ := hR.rows hr hp
    rw [if_neg e]
    simp only [Option.map_some, add_mk]
    have hnn : (off + l + (m - l)) * p.sz ≤ p.n := Nat.le_trans (Nat.mul_le_mul_right _ (by omega)) hn
    exact .sl ρ r (off + l) (h - l) (m - l) cap' _ p hp (fun _ => by rw [← h3, Nat.add_mul]) (by omega) (by omega) hnn (fun k hk => (hcap k hk).symm)
theorem aSlice_ok {P : Program} {sn : Snap} {ρ : Env} {H : Heap} {w : World} (hR : Rel sn ρ H w) {t : TypeId} {x : AV} {cx : Value} (hx : VR sn ρ x cx) {lo hi mx : Option AV} {cl ch cm : Option Value} (hl : OptR sn ρ lo cl) (hh : OptR sn ρ hi ch) (hm : OptR sn ρ mx cm) :
    (aSlice P t x H lo hi mx).ok P ((asNext (Instr.sliceAt t cx cl ch cm)).run P w) sn ρ H w := by
  unfold aSlice
  split
  · rename_i ti ht
    obtain ⟨d, hd, hdd, hun⟩ := run_under_ti ht w
    unfold aSliceD
    split
    · rename_i e l he el
      rw [hdd] at he
      cases d <;> simp [TD.of] at he
      subst he
      rename_i e
      split
      · rename_i i hi'
        unfold aSliceV
        split
        · rename_i full sz xs
          obtain ⟨a, b, o, c, vs, rfl, hle, hmx, hf, ha, hz, hcl, ho, hr⟩ := hx.view_inv
          unfold aSliceView2
          split
          · rename_i e1 e2
            rintro ⟨h0, h1, hsz⟩
            have hb := (run_bounds (P := P) (b := true) hle hl hh hm el h0 w).1 e1 e2 h1
            refine ⟨_, by simp [asNext, Instr.sliceAt, Instr.slice, hd, hb, run_size_ti hi']; rfl, ?_⟩
            have h2 := hx.view_sub (l := l.toNat) (h := xs.length) (m := c) (full' := full) (esz := i.size) (by omega) (Nat.le_refl _) hle (Nat.le_refl _) (fun h => (hf h).symm) (hsz.symm.imp id Eq.symm)
            simpa using h2
          · rename_i h e1 e2
            rintro ⟨h0, h1, h2, hsz⟩
            have hb := (run_bounds (P := P) (b := true) hle hl hh hm el h0 w).2.1 h e1 e2 h1 (by omega)
            refine ⟨_, by simp [asNext, Instr.sliceAt, Instr.slice, hd, hb, run_size_ti hi']; rfl, ?_⟩
            exact hx.view_sub (l := l.toNat) (h := h.toNat) (m := c) (full' := false) (esz := i.size) (by omega) (by omega) (by omega) (Nat.le_refl _) (fun h => by cases h) (hsz.symm.imp id Eq.symm)
          · rename_i h m e1 e2
            rintro ⟨h0, h1, h2, h3, hsz⟩
            have hb := (run_bounds (P := P) (b := true) hle hl hh hm el h0 w).2.2 h m e1 e2 h1 h2 (by omega)
            refine ⟨_, by simp [asNext, Instr.sliceAt, Instr.slice, hd, hb, run_size_ti hi']; rfl, ?_⟩
            exact hx.view_sub (l := l.toNat) (h := h.toNat) (m := m.toNat) (full' := decide (h = m)) (esz := i.size) (by omega) (by omega) (by omega) (by omega) (fun h => by have := of_decide_eq_true h; omega) (hsz.symm.imp id Eq.symm)
          · trivial
        · rename_i r off len cap
          obtain ⟨a, c, rfl, hle, hmx, hcc, hcase⟩ := hx.sl_inv
          unfold aSliceSl2
          split
          · rename_i sz xs hrow
            split
            · rename_i hsz
              subst hsz
              split
              · rename_i e1 e2
                rintro ⟨h0, h1⟩
                have hb := (run_bounds (P := P) (b := true) hle hl hh hm el h0 w).1 e1 e2 h1
                refine ⟨_, by simp [asNext, Instr.sliceAt, Instr.slice, hd, hb, run_size_ti hi']; rfl, ?_⟩
                exact VR.sl_sub hR hrow hx (by omega) hle (Nat.le_refl _) (fun k hk => by
                  simp only [Option.map_eq_some_iff] at hk
                  obtain ⟨k', hk', rfl⟩ := hk
                  rw [hcc k' hk']) hcc
              · rename_i h e1 e2
                rintro ⟨h0, h1, h2⟩
                have hcd := capD_le hle hcc
                have hb := (run_bounds (P := P) (b := true) hle hl hh hm el h0 w).2.1 h e1 e2 h1 (by omega)
                refine ⟨_, by simp [asNext, Instr.sliceAt, Instr.slice, hd, hb, run_size_ti hi']; rfl, ?_⟩
                exact VR.sl_sub hR hrow hx (by omega) (by omega) (Nat.le_refl _) (fun k hk => by
                  simp only [Option.map_eq_some_iff] at hk
                  obtain ⟨k', hk', rfl⟩ := hk
                  rw [hcc k' hk']) hcc
              · rename_i h m e1 e2
                rintro ⟨h0, h1, h2, h3⟩
                have hcd := capD_le hle hcc
                have hb := (run_bounds (P := P) (b := true) hle hl hh hm el h0 w).2.2 h m e1 e2 h1 h2 (by omega)
                refine ⟨_, by simp [asNext, Instr.sliceAt, Instr.slice, hd, hb, run_size_ti hi']; rfl, ?_⟩
                exact VR.sl_sub hR hrow hx (by omega) (by omega) (by omega) (fun k hk => by injection hk with hk; exact hk.symm) hcc
              · trivial
            · trivial
          · trivial
        · trivial
      · trivial
    · rename_i l s he el
      rw [hdd] at he
      cases d <;> simp [TD.of] at he
      cases hx
      unfold aSliceStr
      split
      · rename_i e1 e2
        rintro ⟨h0, h1⟩
        obtain rfl := OptR.none_of hm e2
        have hb := (run_bounds (P := P) (b := false) (Nat.le_refl s.size) hl hh hm el h0 w).1 e1 e2 h1
        exact ⟨_, by simp [asNext, Instr.sliceAt, Instr.slice, hd, hb], .str _ _⟩
      · rename_i h e1 e2
        rintro ⟨h0, h1, h2⟩
        obtain rfl := OptR.none_of hm e2
        have hb := (run_bounds (P := P) (b := false) (Nat.le_refl s.size) hl hh hm el h0 w).2.1 h e1 e2 h1 h2
        exact ⟨_, by simp [asNext, Instr.sliceAt, Instr.slice, hd, hb], .str _ _⟩
      · trivial
    · rename_i n e l he el
      rw [hdd] at he
      cases d <;> simp [TD.of] at he
      obtain ⟨rfl, rfl⟩ := he
      rename_i n e
      split
      · rename_i i hi'
        unfold aSliceArr
        split
        · rename_i r ei j e1 e2
          rintro ⟨h0, h1, h2⟩
          subst h0
          obtain ⟨p, hp⟩ : ∃ p, ρ r = some p ∧ cx = .pointer (some ⟨p.b, ei * p.sz + j, none⟩) := by cases hx; rename_i p hp; exact ⟨p, hp, rfl⟩
          obtain ⟨hp, rfl⟩ := hp
          have hb := (run_bounds (P := P) (b := false) (Nat.le_refl n) hl hh hm el (Int.le_refl 0) w).1 e1 e2 (by omega)
          have key := VR.rsl (sn := sn) ρ r ei j n p hp (by simp only [maxLen]; omega)
          by_cases hn : n = 0
          · subst hn
            exact ⟨_, by simp [asNext, Instr.sliceAt, Instr.sureAddr, hd, hb, run_size_ti hi'], key⟩
          · refine ⟨_, ?_, key⟩
            simp [asNext, Instr.sliceAt, Instr.sureAddr, hd, hb, run_size_ti hi', hn]
            rw [add_mk, Nat.add_zero]
        · rename_i row j e1 e2
          rintro ⟨h0, h1, h2, h3⟩
          subst h0
          obtain ⟨b, o, vs, hc, ho, hr, rfl⟩ : ∃ (b o : Nat) (vs : Nat → Value), (∀ (k : Nat) x, row[k]? = some x → scell sn b (o + k) = some (vs k)) ∧ (∀ (k : Nat) x, row[k]? = some x → x.one = true) ∧ (∀ (k : Nat) x, row[k]? = some x → VR sn noEnv x (vs k)) ∧ cx = .pointer (some ⟨b, o + j, none⟩) := by
            cases hx
            rename_i b o vs hc ho hr
            exact ⟨b, o, vs, hc, ho, hr, rfl⟩
          have hb := (run_bounds (P := P) (b := false) (Nat.le_refl n) hl hh hm el (Int.le_refl 0) w).1 e1 e2 (by omega)
          have hlen : (((row.drop j).take n).map fun x => [x]).length = n := by simp; omega
          have hget : ∀ (i : Nat) rw', (((row.drop j).take n).map fun x => [x])[i]? = some rw' → ∃ x, rw' = [x] ∧ row[j + i]? = some x := fun i rw' hi => by
            simp only [List.getElem?_map, Option.map_eq_some_iff] at hi
            obtain ⟨x, hx, rfl⟩ := hi
            rw [List.getElem?_take] at hx
            split at hx
            · rw [List.getElem?_drop] at hx; exact ⟨x, rfl, hx⟩
            · cases hx
          have key : VR sn ρ (.view true 1 (((row.drop j).take n).map fun x => [x])) (.slice (some ⟨b, o + j, none⟩) n n) := by
            have := VR.view (sn := sn) ρ true 1 (((row.drop j).take n).map fun x => [x]) (some ⟨b, o + j, none⟩) b (o + j) n (fun i _ => vs (j + i)) (by rw [hlen]; exact Nat.le_refl _) (by simp only [maxLen]; omega) (fun _ => hlen.symm) (fun _ => rfl)
              (fun i row' hi => by obtain ⟨x, rfl, _⟩ := hget i row' hi; rfl)
              (fun i row' hi k x hk => by
                obtain ⟨y, rfl, hy⟩ := hget i row' hi
                cases k with
                | zero => rw [Nat.mul_one, Nat.add_zero, Nat.add_assoc]; exact hc _ _ hy
                | succ k => simp at hk)
              (fun i row' hi k x hk => by
                obtain ⟨y, rfl, hy⟩ := hget i row' hi
                cases k with
                | zero => simp at hk; subst hk; exact ho _ _ hy
                | succ k => simp at hk)
              (fun i row' hi k x hk => by
                obtain ⟨y, rfl, hy⟩ := hget i row' hi
                cases k with
                | zero => simp at hk; subst hk; exact hr _ _ hy
                | succ k => simp at hk)
            rwa [hlen] at this
          refine ⟨_, ?_, key⟩
          simp [asNext, Instr.sliceAt, Instr.sureAddr, hd, hb, run_size_ti hi']
          try (by_cases hn : n = 0 <;> simp [hn, add_mk])
        · trivial
      · trivial
    · trivial
  · trivial
end Go.AM
set_option linter.unusedVariables false
set_option linter.unusedSimpArgs false
namespace Go.AM
theorem Rel.drop {sn : Snap} {ρ : Env} {H : Heap} {w : World} (h : Rel sn ρ H w) (r : Nat) : Rel sn ρ (H.set r .dead) w ∧ Ext sn ρ H w sn ρ (H.set r .dead) w := by
  have key : ∀ (x : Nat) bx, (H.set r .dead)[x]? = some bx → bx.live → x ≠ r ∧ H[x]? = some bx := fun x bx hx hl => by
    rcases getElem?_set_list hx with ⟨_, rfl⟩ | h
    · exact hl.elim
    · exact h
  refine ⟨⟨h.gl, h.snap, fun x bx q hx hl hq => h.own x bx q (key x bx hx hl).2 hl hq, fun x y bx cy q q' hx hlx hy hly hq hq' he => h.inj x y bx cy q q' (key x bx hx hlx).2 hlx (key y cy hy hly).2 hly hq hq' he, fun x hx => h.top x (by simpa using hx)⟩, ?_⟩
  refine ⟨fun _ _ h => h, fun _ _ => rfl, by simp, fun _ _ h => h, Nat.le_refl _, rfl, rfl, rfl, fun _ _ _ => rfl, fun _ hb => absurd rfl hb, fun b ho => ?_⟩
  obtain ⟨x, bx, q, hx, hlx, hq, he⟩ := ho
  exact .inr ⟨x, bx, q, (key x bx hx hlx).2, hlx, hq, he⟩
theorem Rel.reid {sn : Snap} {ρ : Env} {H : Heap} {w : World} (h : Rel sn ρ H w) {r : Nat} {blk : Blk} {p : Place} (hr : H[r]? = some blk) (hl : blk.live) (hp : ρ r = some p) :
    Rel sn (envPut ρ H.length p) (H.set r .dead ++ [blk]) w ∧ Ext sn ρ H w sn (envPut ρ H.length p) (H.set r .dead ++ [blk]) w := by
  have htop : ρ H.length = none := h.top _ (Nat.le_refl _)
  have hmono := envPut_mono (p := p) htop
  have hrl : r < H.length := (List.getElem?_eq_some_iff.1 hr).1
  have key : ∀ (x : Nat) bx, (H.set r .dead ++ [blk])[x]? = some bx → bx.live → (x = H.length ∧ bx = blk) ∨ (x < H.length ∧ x ≠ r ∧ H[x]? = some bx) := fun x bx hx hlx => by
    rw [List.getElem?_append] at hx
    simp only [List.length_set] at hx
    split at hx
    · rename_i hlt
      rcases getElem?_set_list hx with ⟨_, rfl⟩ | h2
      · exact hlx.elim
      · exact .inr ⟨hlt, h2⟩
    · by_cases e : x = H.length
      · subst e; simp at hx; exact .inl ⟨rfl, hx.symm⟩
      · rw [List.getElem?_eq_none (by simp; omega)] at hx; cases hx
  have eold : ∀ x q, x < H.length → envPut ρ H.length p x = some q → ρ x = some q := fun x q hx hq => by
    simp only [envPut] at hq; rw [if_neg (by omega)] at hq; exact hq
  obtain ⟨hs, obj, ho, hb⟩ := h.own r blk p hr hl hp
  refine ⟨⟨h.gl, h.snap, fun x bx q hx hlx hq => ?_, fun x y bx cy q q' hx hlx hy hly hq hq' he => ?_, fun x hx => ?_⟩, ?_⟩
  · rcases key x bx hx hlx with ⟨rfl, rfl⟩ | ⟨hlt, _, hx'⟩
    · rw [envPut_same] at hq
      injection hq with hq
      subst hq
      exact ⟨hs, obj, ho, hb.mono (fun _ _ h => h) hmono⟩
    · obtain ⟨h1, o, h2, h3⟩ := h.own x bx q hx' hlx (eold _ _ hlt hq)
      exact ⟨h1, o, h2, h3.mono (fun _ _ h => h) hmono⟩
  · rcases key x bx hx hlx with ⟨e1, _⟩ | ⟨hlt, hxr, hx'⟩ <;> rcases key y cy hy hly with ⟨e2, _⟩ | ⟨hlt', hyr, hy'⟩
    · omega
    · subst e1
      rw [envPut_same] at hq
      injection hq with hq
      subst hq
      exact absurd (h.inj r y blk cy p q' hr hl hy' hly hp (eold _ _ hlt' hq') he).symm hyr
    · subst e2
      rw [envPut_same] at hq'
      injection hq' with hq'
      subst hq'
      exact absurd (h.inj x r bx blk q p hx' hlx hr hl (eold _ _ hlt hq) hp he) hxr
    · exact h.inj x y bx cy q q' hx' hlx hy' hly (eold _ _ hlt hq) (eold _ _ hlt' hq') he
  · simp only [List.length_append, List.length_set, List.length_cons, List.length_nil] at hx
    simp only [envPut]
    rw [if_neg (by omega)]
    exact h.top x (by omega)
  · refine ⟨hmono, fun r hr => by simp only [envPut]; rw [if_neg (by omega)], by simp, fun _ _ h => h, Nat.le_refl _, rfl, rfl, rfl, fun _ _ _ => rfl, fun _ hb => absurd rfl hb, fun b hob => ?_⟩
    obtain ⟨x, bx, q, hx, hlx, hq, he⟩ := hob
    rcases key x bx hx hlx with ⟨rfl, rfl⟩ | ⟨hlt, _, hx'⟩
    · rw [envPut_same] at hq
      injection hq with hq
      subst hq
      exact .inr ⟨r, _, _, hr, hl, hp, he⟩
    · exact .inr ⟨x, bx, q, hx', hlx, eold _ _ hlt hq, he⟩
theorem Rel.ghost {sn : Snap} {ρ : Env} {H : Heap} {w : World} (h : Rel sn ρ H w) (blk : Blk) : Rel sn ρ (H ++ [blk]) w ∧ Ext sn ρ H w sn ρ (H ++ [blk]) w := by
  have htop : ρ H.length = none := h.top _ (Nat.le_refl _)
  have key : ∀ (x : Nat) bx q, (H ++ [blk])[x]? = some bx → ρ x = some q → H[x]? = some bx := fun x bx q hx hq => by
    rw [List.getElem?_append] at hx
    split at hx
    · exact hx
    · rename_i hge
      rw [h.top x (by omega)] at hq
      cases hq
  refine ⟨⟨h.gl, h.snap, fun x bx q hx hl hq => h.own x bx q (key x bx q hx hq) hl hq, fun x y bx cy q q' hx hlx hy hly hq hq' he => h.inj x y bx cy q q' (key x bx q hx hq) hlx (key y cy q' hy hq') hly hq hq' he, fun x hx => h.top x (by simp at hx; omega)⟩, ?_⟩
  refine ⟨fun _ _ h => h, fun _ _ => rfl, by simp, fun _ _ h => h, Nat.le_refl _, rfl, rfl, rfl, fun _ _ _ => rfl, fun _ hb => absurd rfl hb, fun b ho => ?_⟩
  obtain ⟨x, bx, q, hx, hlx, hq, he⟩ := ho
  exact .inr ⟨x, bx, q, key x bx q hx hq, hlx, hq, he⟩
def TD.isSeq : TD → Bool
  | .slice _ | .str => true
  | _ => false
def aAppendView (ie : TI) (full : Bool) (sz : Nat) (xs : List (List AV)) (sz2 : Nat) (xs2 : List (List AV)) (nx : Nat) (H : Heap) : AR :=
  if xs2.length = 0 ∧ xs.length ≠ 0 then .chk (xs2.length = nx ∧ (sz = ie.size ∨ xs = []) ∧ xs.length ≤ 68719476736 ∧ ie.bytes ≤ 1024) (.val (.view full sz xs))
  else .chk (full = true ∧ (sz = ie.size ∨ xs = []) ∧ (sz2 = ie.size ∨ xs2 = []) ∧ xs2.length = nx ∧ xs.length + xs2.length ≤ 68719476736 ∧ ie.bytes ≤ 1024 ∧ ie.zero.length = ie.size)
    (.upd (H ++ [.rows ie.size (xs ++ xs2)]) (.sl H.length 0 (xs.length + xs2.length) none))
def aAppendSl (ie : TI) (b : Option Blk) (r off len : Nat) (cap : Option Nat) (sz2 : Nat) (xs2 : List (List AV)) (nx : Nat) (H : Heap) : AR := match b, cap with
  | some (.rows sz xs), some c => .chk (off = 0 ∧ len ≤ xs.length ∧ sz = ie.size ∧ (sz2 = ie.size ∨ xs2 = []) ∧ xs2.length = nx ∧ len + xs2.length ≤ 68719476736 ∧ ie.bytes ≤ 1024 ∧ ie.zero.length = ie.size)
      (if len + xs2.length ≤ c then .upd (H.set r (.rows ie.size (xs.take len ++ xs2 ++ xs.drop (len + xs2.length)))) (.sl r 0 (len + xs2.length) (some c))
       else .upd (H ++ [.rows ie.size (xs.take len ++ xs2)]) (.sl H.length 0 (len + xs2.length) none))
  | some (.rows sz xs), none => .chk (off = 0 ∧ len ≤ xs.length ∧ sz = ie.size ∧ (sz2 = ie.size ∨ xs2 = []) ∧ xs2.length = nx ∧ len + xs2.length ≤ 68719476736 ∧ ie.bytes ≤ 1024 ∧ ie.zero.length = ie.size)
      (.upd (H.set r .dead ++ [.rows ie.size (xs.take len ++ xs2)]) (.sl H.length 0 (len + xs2.length) none))
  | _, _ => .bad
def aAppendE (ie : TI) (s : AV) (el : Option (Nat × List (List AV))) (nx : Nat) (H : Heap) : AR := match el with
  | some (sz2, xs2) => match s with
    | .view full sz xs => aAppendView ie full sz xs sz2 xs2 nx H
    | .sl r off len cap => aAppendSl ie H[r]? r off len cap sz2 xs2 nx H
    | _ => .bad
  | none => .bad
def aAppend (P : Program) (t t2 : TypeId) (s x : AV) (H : Heap) : AR := match tinfo P t, tinfo P t2 with
  | some i, some i2 => match i.desc, i2.desc.isSeq with
    | .slice e, true => match tinfo P e with
      | some ie => aAppendE ie s (aElems x H) (aLenOf x) H
      | none => .bad
    | _, _ => .bad
  | _, _ => .bad
theorem growBy_le (n : Nat) : ∀ (k c : Nat), c < n → Builtin.growBy n k c ≤ n + (n + 768) / 4 := by
  intro k
  induction k with
  | zero => intro c hc; simp only [Builtin.growBy]; omega
  | succ k ih =>
    intro c hc
    simp only [Builtin.growBy]
    split
    · omega
    · by_cases h : c + (c + 768) / 4 < n
      · exact ih _ h
      · cases k with
        | zero => simp only [Builtin.growBy]; omega
        | succ k => simp only [Builtin.growBy]; rw [if_pos (by omega)]; omega
theorem nextcap_le {n c : Nat} (h : c < n) : Builtin.nextslicecap n c ≤ 2 * n + 192 := by
  unfold Builtin.nextslicecap
  split
  · omega
  · split
    · omega
    · have := growBy_le n 4 c h
      omega
theorem RowsR.mono {sn sn' : Snap} {ρ ρ' : Env} (hs : ∀ b o, sn b = some o → sn' b = some o) (hr : ∀ r p, ρ r = some p → ρ' r = some p) {sz : Nat} {rows : List (List AV)} {c : Array Value} (h : RowsR sn ρ sz rows c) : RowsR sn' ρ' sz rows c :=
  ⟨h.1, h.2.1, fun i row hi j x hj => let ⟨v, e1, e2, e3⟩ := h.2.2 i row hi j x hj; ⟨v, e1, e2, e3.mono hs hr⟩⟩
theorem RowsR.blk {sn : Snap} {ρ : Env} {sz : Nat} {rows : List (List AV)} {c rest : Array Value} (h : RowsR sn ρ sz rows c) (b : Nat) (t : TypeId) : BlkR sn ρ ⟨b, sz, (c ++ rest).size⟩ (.rows sz rows) (.cells (c ++ rest) t) := by
  refine ⟨rfl, rfl, by simp [h.1], h.2.1, fun i row hi j x hj => ?_, fun o ho => by simp⟩
  obtain ⟨v, e1, e2, e3⟩ := h.2.2 i row hi j x hj
  have := (Array.getElem?_eq_some_iff.1 e1).1
  exact ⟨v, by rw [Array.getElem?_append, if_pos this]; exact e1, e2, e3⟩
theorem zeroCells_size (z : Array Value) (n : Nat) : (Builtin.zeroCells z n).size = n * z.size := by simp [Builtin.zeroCells]
theorem run_append {P : Program} {t t2 e : TypeId} {i i2 ie : TI} (ht : tinfo P t = some i) (ht2 : tinfo P t2 = some i2) (hd : i.desc = .slice e) (hd2 : i2.desc.isSeq = true) (he : tinfo P e = some ie) {w : World} {a : Option Addr} {len c : Nat} {cx : Value} {n2 : Nat} {new old : Array Value}
    (hlen : (Builtin.lenOf cx).run P w = .ok n2 w) (hnew : ∀ w1 : World, w1.heap = w.heap → (Builtin.firstCells ie.size n2 cx).run P w1 = .ok new w1) (hold : ∀ w1 : World, w1.heap = w.heap → (Builtin.firstCells ie.size len (.slice a len c)).run P w1 = .ok old w1)
    (hsz : len + n2 ≤ 68719476736) (hby : ie.bytes ≤ 1024) (hc : len ≤ c) (ty : TypeId) :
    (len + n2 ≤ c → ∀ w', (match a with | some a => (storeCells (a.add (len * ie.size)) new.toList).run P w | none => .ok () w) = .ok () w' → (Builtin.append_ #[t, t2] ty #[.slice a len c, cx]).run P w = .ok (.slice a (len + n2) c) w') ∧
    (c < len + n2 → ∃ (cap : Nat) (z : Value), len + n2 ≤ cap ∧ cap ≤ maxLen ∧ ie.zero = z.cells.toList.map AV.ofV ∧ (Builtin.append_ #[t, t2] ty #[.slice a len c, cx]).run P w =
      .ok (.slice (some ⟨w.heap.size, 0, none⟩) (len + n2) cap) (w.drew.alloc (.cells (old ++ new ++ Builtin.zeroCells z.cells (cap - (len + n2))) e))) := by
  obtain ⟨d, g1, g2, g3⟩ := run_under_ti ht w
  rw [hd] at g2
  cases d <;> simp [TD.of] at g2
  subst g2
  obtain ⟨d2, k1, k2, k3⟩ := run_under_ti ht2 w
  obtain ⟨inf, dd, z, q1, q2, q3, q4, q5, q6, q7⟩ := tinfo_ok he
  have hd3 : (∃ e', d2 = .slice e') ∨ d2 = .string := by rw [k2] at hd2; cases d2 <;> simp [TD.of, TD.isSeq] at hd2 <;> first | exact .inl ⟨_, rfl⟩ | exact .inr rfl
  have hnew0 := hnew w rfl
  have hzero : ∀ w1, (zeroValue e).run P w1 = .ok z w1 := fun w1 => by simp [zeroValue, run_info q1, q3]
  refine ⟨fun hle w' hst => ?_, fun hgt => ?_⟩
  · unfold Builtin.append_
    rcases hd3 with ⟨e', rfl⟩ | rfl
    all_goals
      cases a with
      | none =>
        injection hst with _ hst
        subst hst
        simp [g1, k1, hlen, hnew0, hle, run_size_ti he]
      | some a =>
        simp only at hst
        simp [g1, k1, hlen, hnew0, hle, run_size_ti he, hst]
  · have hcap := nextcap_le (n := len + n2) (c := c) hgt
    have h48 : ¬ (281474976710656 < Builtin.nextslicecap (len + n2) c * inf.bytes) := by
      rw [q5]
      have : Builtin.nextslicecap (len + n2) c * ie.bytes ≤ (2 * (len + n2) + 192) * 1024 := Nat.mul_le_mul hcap hby
      omega
    have hnm : ¬ (IntKind.i64.max < ((len + n2 : Nat) : Int)) := by
      simp [IntKind.max, IntKind.signed, IntKind.bits]
      omega
    have hnm' : ¬ (IntKind.i64.max < (len : Int) + (n2 : Int)) := by
      simp [IntKind.max, IntKind.signed, IntKind.bits]
      omega
    have hforced : (Question.appendCap (len + n2) c e).forced = false := rfl
    have hgt' : ¬ (len + n2 ≤ c) := by omega
    obtain ⟨k, hk⟩ : ∃ k, (Question.appendCap (len + n2) c e).cut (w.tape w.drawn (Question.appendCap (len + n2) c e)) = len + n2 + k % (2 ^ 63 - (len + n2)) := ⟨_, rfl⟩
    have hlt : k % (2 ^ 63 - (len + n2)) < 2 ^ 63 - (len + n2) := Nat.mod_lt _ (by omega)
    refine ⟨len + n2 + k % (2 ^ 63 - (len + n2)), z, by omega, by simp only [maxLen]; omega, q6, ?_⟩
    have hn2 := hnew w.drew rfl
    have ho2 := hold w.drew rfl
    unfold Builtin.append_
    rcases hd3 with ⟨e', rfl⟩ | rfl
    all_goals simp [g1, k1, hlen, hgt', run_size_ti he, run_info q1, h48, hnm, hnm', hforced, hk, ho2, hn2, hzero, newRow]
    all_goals (intro h; omega)
theorem rows3 {xs xs2 : List (List AV)} {len : Nat} (hl : len ≤ xs.length) {i : Nat} {row : List AV} (h : (xs.take len ++ xs2 ++ xs.drop (len + xs2.length))[i]? = some row) :
    (i < len ∧ xs[i]? = some row) ∨ (len ≤ i ∧ i < len + xs2.length ∧ xs2[i - len]? = some row) ∨ (len + xs2.length ≤ i ∧ xs[i]? = some row) := by
  have htl : (xs.take len).length = len := by simp; omega
  rw [List.append_assoc, List.getElem?_append, htl] at h
  split at h
  · rename_i h1
    rw [List.getElem?_take, if_pos h1] at h
    exact .inl ⟨h1, h⟩
  · rename_i h1
    rw [List.getElem?_append] at h
    split at h
    · exact .inr (.inl ⟨by omega, by omega, h⟩)
    · rw [List.getElem?_drop, show len + xs2.length + (i - len - xs2.length) = i by omega] at h
      exact .inr (.inr ⟨by omega, h⟩)
theorem aAppend_ok {P : Program} {sn : Snap} {ρ : Env} {H : Heap} {w : World} (hR : Rel sn ρ H w) {t t2 ty : TypeId} {s x : AV} {cs cx : Value} (hs : VR sn ρ s cs) (hx : VR sn ρ x cx) :
    (aAppend P t t2 s x H).ok P ((asNext (Builtin.append_ #[t, t2] ty #[cs, cx])).run P w) sn ρ H w := by
  unfold aAppend
  split
  · rename_i i i2 ht ht2
    split
    · rename_i e hd hd2
      split
      · rename_i ie hie
        unfold aAppendE
        split
        · rename_i sz2 xs2 hel
          split
          · rename_i full sz xs
            obtain ⟨a, b, o, c, vs, rfl, hle, hmx, hf, ha, hz, hcl, ho, hr⟩ := hs.view_inv
            unfold aAppendView
            split
            · rename_i h0
              rintro ⟨hnx, hsz, hb, hby⟩
              have h2 : xs2 = [] := List.length_eq_zero_iff.1 h0.1
              subst h2
              obtain ⟨g1, new, g2, g3⟩ := elems_ok (P := P) hR hx hel (esz := ie.size) (.inl rfl) hnx
              obtain ⟨k1, old, k2, k3⟩ := elems_ok (P := P) hR hs (x := .view full sz xs) rfl hsz.symm rfl
              have hnil : new = #[] := by have := g3.1; simpa using this
              subst hnil
              obtain ⟨r1, r2⟩ := run_append (ty := ty) ht ht2 hd hd2 hie (a := a) (c := c) g1 g2 k2 (by simpa using hb) hby hle
              have := r1 (by simpa using hle) w (by cases a <;> simp [storeCells])
              have this' : (Builtin.append_ #[t, t2] ty #[.slice a xs.length c, cx]).run P w = .ok (.slice a xs.length c) w := by simpa using this
              exact ⟨.slice a xs.length c, by simp [asNext, this'], hs⟩
            · rintro ⟨hfu, hsz, hsz2, hnx, hb, hby, hzl⟩
              obtain ⟨g1, new, g2, g3⟩ := elems_ok (P := P) hR hx hel hsz2.symm hnx
              obtain ⟨k1, old, k2, k3⟩ := elems_ok (P := P) hR hs (x := .view full sz xs) rfl hsz.symm rfl
              have hc := hf hfu
              subst hc
              obtain ⟨r1, r2⟩ := run_append (ty := ty) ht ht2 hd hd2 hie (a := a) (c := xs.length) g1 g2 k2 hb hby (Nat.le_refl _)
              by_cases hn : xs2.length = 0
              · have hx0 : xs.length = 0 := by omega
                have e1 : xs = [] := List.length_eq_zero_iff.1 hx0
                have e2 : xs2 = [] := List.length_eq_zero_iff.1 hn
                subst e1 e2
                have hnil : new = #[] := by have := g3.1; simpa using this
                subst hnil
                have := r1 (by simp) w (by cases a <;> simp [storeCells])
                obtain ⟨q1, q2⟩ := hR.ghost (.rows ie.size ([] ++ []))
                have this' : (Builtin.append_ #[t, t2] ty #[.slice a 0 0, cx]).run P w = .ok (.slice a 0 0) w := by simpa using this
                exact ⟨.slice a 0 0, w, sn, ρ, .inl (by simp only [List.length_nil]; simp [asNext, this']), by simpa using VR.sl0 (sn := sn) ρ H.length 0 none a (by simp), q1, q2⟩
              · obtain ⟨cap, z, h1, h2, h3, h4⟩ := r2 (by omega)
                have hzs : z.cells.size = ie.size := by rw [← hzl, h3]; simp
                have hcell : (old ++ new ++ Builtin.zeroCells z.cells (cap - (xs.length + xs2.length))).size = cap * ie.size := by
                  have a1 := k3.1
                  have a2 := g3.1
                  simp only [Array.size_append, zeroCells_size, hzs, a1, a2]
                  rw [← Nat.add_mul, ← Nat.add_mul]
                  congr 1
                  omega
                have hmono := envPut_mono (p := ⟨w.heap.size, ie.size, (old ++ new ++ Builtin.zeroCells z.cells (cap - (xs.length + xs2.length))).size⟩) (hR.top _ (Nat.le_refl _))
                obtain ⟨q1, q2⟩ := hR.push (w' := w.drew.alloc (.cells (old ++ new ++ Builtin.zeroCells z.cells (cap - (xs.length + xs2.length))) e)) (blk := .rows ie.size (xs ++ xs2)) (sz := ie.size) (n := (old ++ new ++ Builtin.zeroCells z.cells (cap - (xs.length + xs2.length))).size) rfl rfl rfl rfl trivial
                  (((k3.append g3).mono (fun _ _ h => h) hmono).blk _ _)
                refine ⟨_, _, sn, _, .inl (by simp [asNext, h4]; rfl), ?_, q1, q2⟩
                exact VR.sl _ _ _ _ cap none _ _ (envPut_same _ _ _) (fun _ => by simp) h1 h2 (by rw [hcell]; simp) (by simp)
          · rename_i r off len cap
            unfold aAppendSl
            split
            · rename_i sz xs c0 hrow
              rintro ⟨hoff, hln, hsz, hsz2, hnx, hb, hby, hzl⟩
              subst hoff hsz
              obtain ⟨a, c, rfl, hlc, hmx, hcc, hcase⟩ := hs.sl_inv
              have hc0 := hcc c0 rfl
              subst hc0
              obtain ⟨g1, new, g2, g3⟩ := elems_ok (P := P) hR hx hel hsz2.symm hnx
              have hel1 : aElems (.sl r 0 len (some c)) H = some (ie.size, xs.take len) := by simp [aElems, hrow]
              have htl : (xs.take len).length = len := by simp; omega
              obtain ⟨k1, old, k2, k3⟩ := elems_ok (P := P) hR hs hel1 (.inr rfl) (by rw [htl]; rfl)
              rw [htl] at k2
              obtain ⟨r1, r2⟩ := run_append (ty := ty) ht ht2 hd hd2 hie (a := a) (c := c) g1 g2 k2 hb hby hlc
              split
              · rename_i hn
                have hrl : r < H.length := (List.getElem?_eq_some_iff.1 hrow).1
                rcases hcase with rfl | ⟨p, hp, rfl, hpn⟩
                · have e1 : len = 0 := by omega
                  have e2 : xs2 = [] := List.length_eq_zero_iff.1 (by omega)
                  subst e1 e2
                  have hnil : new = #[] := by have := g3.1; simpa using this
                  subst hnil
                  have := r1 (by simp) w (by cases a <;> simp [storeCells])
                  have this' : (Builtin.append_ #[t, t2] ty #[.slice a 0 0, cx]).run P w = .ok (.slice a 0 0) w := by simpa using this
                  have hsame : H.set r (.rows ie.size (xs.take 0 ++ [] ++ xs.drop (0 + ([] : List (List AV)).length))) = H := by
                    apply List.ext_getElem?
                    intro i
                    by_cases hi : r = i
                    · subst hi
                      rw [List.getElem?_set_self hrl, hrow]
                      simp
                    · rw [List.getElem?_set_ne hi]
                  rw [hsame]
                  exact ⟨.slice a 0 0, w, sn, ρ, .inl (by simp [asNext, this']), by simpa using VR.sl0 (sn := sn) ρ r 0 (some 0) a (by simp), hR, .refl ..⟩
                · obtain ⟨cc, t', fr, h1, h2, h3, h4, h5, h6, h7, h8⟩ := hR.rows hrow hp
                  have hpn' : (len + xs2.length) * ie.size ≤ cc.size := by
                    rw [← h4, ← h3]
                    refine Nat.le_trans (Nat.mul_le_mul_right _ ?_) hpn
                    omega
                  have hfit : len * ie.size + 0 + new.toList.length ≤ cc.size := by
                    have := g3.1
                    rw [Nat.add_mul] at hpn'
                    simp only [Array.length_toList]
                    omega
                  obtain ⟨c', s1, s2, s3⟩ := run_storeCells_blk P p.b (len * ie.size) t' fr new.toList 0 cc w h1 hfit g3.oneCell h8
                  have := r1 hn _ (by simp only [Nat.zero_mul, add_mk, Nat.zero_add]; exact s1)
                  have hlen3 : (xs.take len ++ xs2 ++ xs.drop (len + xs2.length)).length * ie.size ≤ cc.size := by
                    by_cases hx3 : xs.length ≤ len + xs2.length
                    · rw [List.drop_eq_nil_of_le hx3, List.append_nil, List.length_append, htl]; exact hpn'
                    · rw [List.length_append, List.length_append, htl, List.length_drop, show len + xs2.length + (xs.length - (len + xs2.length)) = xs.length by omega]
                      exact h5
                  have hblk : BlkR sn ρ p (.rows ie.size (xs.take len ++ xs2 ++ xs.drop (len + xs2.length))) (.cells c' t' fr) := by
                    refine ⟨h3, h4.trans s2.symm, by rw [s2]; exact hlen3, fun i row hi => ?_, fun i row hi j y hj => ?_, by rw [s2]; exact h8⟩
                    · rcases rows3 hln hi with ⟨_, hi⟩ | ⟨_, _, hi⟩ | ⟨_, hi⟩
                      · exact h6 _ _ hi
                      · exact g3.2.1 _ _ hi
                      · exact h6 _ _ hi
                    · rw [s3]
                      simp only [Nat.add_zero, Array.length_toList]
                      have hsz' := g3.1
                      have hjj := (List.getElem?_eq_some_iff.1 hj).1
                      rcases rows3 hln hi with ⟨hlt, hi⟩ | ⟨hge, hlt, hi⟩ | ⟨hge, hi⟩
                      · have hjs : j < ie.size := by rw [h6 _ _ hi] at hjj; exact hjj
                        have hlt2 := mul_lt_of hlt hjs
                        rw [if_neg (by omega)]
                        exact h7 i row hi j y hj
                      · have hjs : j < ie.size := by rw [g3.2.1 _ _ hi] at hjj; exact hjj
                        obtain ⟨v, e1, e2, e3⟩ := g3.2.2 _ _ hi j y hj
                        have hlt2 := mul_lt_of (show i - len < xs2.length by omega) hjs
                        have hmul : i * ie.size = len * ie.size + (i - len) * ie.size := by rw [← Nat.add_mul]; congr 1; omega
                        rw [if_pos (by omega)]
                        refine ⟨v, ?_, e2, e3⟩
                        rw [Array.getElem?_toList, ← e1]
                        congr 1
                        omega
                      · have hm2 : (len + xs2.length) * ie.size ≤ i * ie.size := Nat.mul_le_mul_right _ hge
                        rw [Nat.add_mul] at hm2
                        rw [if_neg (by omega)]
                        exact h7 i row hi j y hj
                  obtain ⟨u1, u2⟩ := hR.update hrow trivial hp hblk
                  refine ⟨.slice (some ⟨p.b, 0 * p.sz, none⟩) (len + xs2.length) c, _, sn, ρ, .inl (by simp only [asNext, Sem.run_bind, this, Result.andThen_ok]; rfl), ?_, u1, u2⟩
                  exact VR.sl _ _ _ _ c (some c) _ p hp (fun _ => rfl) hn hmx hpn (by simp)
              · rename_i hn
                have hn' : c < len + xs2.length := by omega
                obtain ⟨cap', z, h1, h2, h3, h4⟩ := r2 hn'
                have hzs : z.cells.size = ie.size := by rw [← hzl, h3]; simp
                have hcell : (old ++ new ++ Builtin.zeroCells z.cells (cap' - (len + xs2.length))).size = cap' * ie.size := by
                  have a1 := k3.1
                  have a2 := g3.1
                  rw [htl] at a1
                  simp only [Array.size_append, zeroCells_size, hzs, a1, a2]
                  rw [← Nat.add_mul, ← Nat.add_mul]
                  congr 1
                  omega
                have hmono := envPut_mono (p := ⟨w.heap.size, ie.size, (old ++ new ++ Builtin.zeroCells z.cells (cap' - (len + xs2.length))).size⟩) (hR.top _ (Nat.le_refl _))
                obtain ⟨q1, q2⟩ := hR.push (w' := w.drew.alloc (.cells (old ++ new ++ Builtin.zeroCells z.cells (cap' - (len + xs2.length))) e)) (blk := .rows ie.size (xs.take len ++ xs2)) (sz := ie.size) (n := (old ++ new ++ Builtin.zeroCells z.cells (cap' - (len + xs2.length))).size) rfl rfl rfl rfl trivial
                  (((k3.append g3).mono (fun _ _ h => h) hmono).blk _ _)
                refine ⟨_, _, sn, _, .inl (by simp [asNext, h4]; rfl), ?_, q1, q2⟩
                exact VR.sl _ _ _ _ cap' none _ _ (envPut_same _ _ _) (fun _ => by simp) h1 h2 (by rw [hcell]; simp) (by simp)
            · rename_i sz xs hrow
              rintro ⟨hoff, hln, hsz, hsz2, hnx, hb, hby, hzl⟩
              subst hoff hsz
              obtain ⟨a, c, rfl, hlc, hmx, hcc, hcase⟩ := hs.sl_inv
              obtain ⟨g1, new, g2, g3⟩ := elems_ok (P := P) hR hx hel hsz2.symm hnx
              have hel1 : aElems (.sl r 0 len none) H = some (ie.size, xs.take len) := by simp [aElems, hrow]
              have htl : (xs.take len).length = len := by simp; omega
              obtain ⟨k1, old, k2, k3⟩ := elems_ok (P := P) hR hs hel1 (.inr rfl) (by rw [htl]; rfl)
              rw [htl] at k2
              obtain ⟨r1, r2⟩ := run_append (ty := ty) ht ht2 hd hd2 hie (a := a) (c := c) g1 g2 k2 hb hby hlc
              by_cases hn : len + xs2.length ≤ c
              · rcases hcase with rfl | ⟨p, hp, rfl, hpn⟩
                · have e1 : len = 0 := by omega
                  have e2 : xs2 = [] := List.length_eq_zero_iff.1 (by omega)
                  subst e1 e2
                  have hnil : new = #[] := by have := g3.1; simpa using this
                  subst hnil
                  have := r1 (by simp) w (by cases a <;> simp [storeCells])
                  obtain ⟨d1, d2⟩ := hR.drop r
                  obtain ⟨q1, q2⟩ := d1.ghost (.rows ie.size (xs.take 0 ++ []))
                  have this' : (Builtin.append_ #[t, t2] ty #[.slice a 0 0, cx]).run P w = .ok (.slice a 0 0) w := by simpa using this
                  exact ⟨.slice a 0 0, w, sn, ρ, .inl (by simp [asNext, this']), by simpa using VR.sl0 (sn := sn) ρ H.length 0 none a (by simp), q1, d2.trans q2⟩
                · obtain ⟨cc, t', fr, h1, h2, h3, h4, h5, h6, h7, h8⟩ := hR.rows hrow hp
                  have hpn' : (len + xs2.length) * ie.size ≤ cc.size := by
                    rw [← h4, ← h3]
                    refine Nat.le_trans (Nat.mul_le_mul_right _ ?_) hpn
                    omega
                  have hfit : len * ie.size + 0 + new.toList.length ≤ cc.size := by
                    have := g3.1
                    rw [Nat.add_mul] at hpn'
                    simp only [Array.length_toList]
                    omega
                  obtain ⟨c', s1, s2, s3⟩ := run_storeCells_blk P p.b (len * ie.size) t' fr new.toList 0 cc w h1 hfit g3.oneCell h8
                  have := r1 hn _ (by simp only [Nat.zero_mul, add_mk, Nat.zero_add]; exact s1)
                  have hblk : BlkR sn ρ p (.rows ie.size (xs.take len ++ xs2)) (.cells c' t' fr) := by
                    refine ⟨h3, h4.trans s2.symm, ?_, fun i row hi => ?_, fun i row hi j y hj => ?_, by rw [s2]; exact h8⟩
                    · rw [s2, List.length_append, htl]; exact hpn'
                    · rw [List.getElem?_append] at hi
                      split at hi
                      · exact k3.2.1 _ _ hi
                      · exact g3.2.1 _ _ hi
                    · rw [List.getElem?_append, htl] at hi
                      rw [s3]
                      simp only [Nat.add_zero, Array.length_toList]
                      have hjs : j < ie.size := by
                        have hjj := (List.getElem?_eq_some_iff.1 hj).1
                        split at hi
                        · rw [k3.2.1 _ _ hi] at hjj; exact hjj
                        · rw [g3.2.1 _ _ hi] at hjj; exact hjj
                      split at hi
                      · rename_i hlt
                        have hlt2 := mul_lt_of hlt hjs
                        rw [if_neg (by omega)]
                        have hi' : xs[i]? = some row := by rw [List.getElem?_take, if_pos hlt] at hi; exact hi
                        exact h7 i row hi' j y hj
                      · rename_i hge
                        have hil := (List.getElem?_eq_some_iff.1 hi).1
                        obtain ⟨v, e1, e2, e3⟩ := g3.2.2 _ _ hi j y hj
                        have hlt2 := mul_lt_of hil hjs
                        have hmul : i * ie.size = len * ie.size + (i - len) * ie.size := by rw [← Nat.add_mul]; congr 1; omega
                        have hsz' := g3.1
                        rw [if_pos (by omega)]
                        refine ⟨v, ?_, e2, e3⟩
                        rw [Array.getElem?_toList, ← e1]
                        congr 1
                        omega
                  obtain ⟨u1, u2⟩ := hR.update hrow trivial hp hblk
                  have hrl : r < H.length := (List.getElem?_eq_some_iff.1 hrow).1
                  obtain ⟨q1, q2⟩ := u1.reid (r := r) (blk := .rows ie.size (xs.take len ++ xs2)) (p := p) (by simp [hrl]) trivial hp
                  simp only [List.length_set, List.set_set] at q1 q2
                  refine ⟨.slice (some ⟨p.b, 0 * p.sz, none⟩) (len + xs2.length) c, _, sn, _, .inl (by simp only [asNext, Sem.run_bind, this, Result.andThen_ok]; rfl), ?_, q1, u2.trans q2⟩
                  exact VR.sl _ _ _ _ c none _ _ (envPut_same _ _ _) (fun _ => rfl) hn hmx hpn (by simp)
              · obtain ⟨cap', z, h1, h2, h3, h4⟩ := r2 (by omega)
                have hzs : z.cells.size = ie.size := by rw [← hzl, h3]; simp
                have hcell : (old ++ new ++ Builtin.zeroCells z.cells (cap' - (len + xs2.length))).size = cap' * ie.size := by
                  have a1 := k3.1
                  have a2 := g3.1
                  rw [htl] at a1
                  simp only [Array.size_append, zeroCells_size, hzs, a1, a2]
                  rw [← Nat.add_mul, ← Nat.add_mul]
                  congr 1
                  omega
                obtain ⟨d1, d2⟩ := hR.drop r
                have hmono := envPut_mono (p := ⟨w.heap.size, ie.size, (old ++ new ++ Builtin.zeroCells z.cells (cap' - (len + xs2.length))).size⟩) (d1.top _ (Nat.le_refl _))
                obtain ⟨q1, q2⟩ := d1.push (w' := w.drew.alloc (.cells (old ++ new ++ Builtin.zeroCells z.cells (cap' - (len + xs2.length))) e)) (blk := .rows ie.size (xs.take len ++ xs2)) (sz := ie.size) (n := (old ++ new ++ Builtin.zeroCells z.cells (cap' - (len + xs2.length))).size) rfl rfl rfl rfl trivial
                  (((k3.append g3).mono (fun _ _ h => h) hmono).blk _ _)
                simp only [List.length_set] at q1 q2
                refine ⟨_, _, sn, _, .inl (by simp [asNext, h4]; rfl), ?_, q1, d2.trans q2⟩
                exact VR.sl _ _ _ _ cap' none _ _ (envPut_same _ _ _) (fun _ => by simp) h1 h2 (by rw [hcell]; simp) (by simp)
            · trivial
          · trivial
        · trivial
      · trivial
    · trivial
  · trivial
def cap0 (b : Bool) (r off len c : Nat) : AV := match b with
  | true => .sl r off len none
  | false => .sl r off len (some c)
def norm0 (s : AV) : AV := match s with
  | .sl r off len (some c) => cap0 (decide (c = 0)) r off len c
  | s => s
def aAppendN (P : Program) (t t2 : TypeId) (s x : AV) (H : Heap) : AR := aAppend P t t2 (norm0 s) x H
theorem norm0_ok {sn : Snap} {ρ : Env} {s : AV} {v : Value} (h : VR sn ρ s v) : VR sn ρ (norm0 s) v := by
  unfold norm0
  split
  · rename_i r off len c
    by_cases hc : c = 0
    · rw [decide_eq_true hc]
      cases h with
      | sl _ _ _ _ c cap ad p h ha hl hm hn hc => exact .sl _ _ _ _ c none ad p h ha hl hm hn (fun _ h => by cases h)
      | sl0 => exact .sl0 _ _ _ _ _ (fun _ h => by cases h)
    · rw [decide_eq_false hc]
      exact h
  · exact h
theorem aAppendN_ok {P : Program} {sn : Snap} {ρ : Env} {H : Heap} {w : World} (hR : Rel sn ρ H w) {t t2 ty : TypeId} {s x : AV} {cs cx : Value} (hs : VR sn ρ s cs) (hx : VR sn ρ x cx) :
    (aAppendN P t t2 s x H).ok P ((asNext (Builtin.append_ #[t, t2] ty #[cs, cx])).run P w) sn ρ H w := aAppend_ok hR (norm0_ok hs) hx
def aMatE (ie : TI) (s x : AV) (b : Blk) (len : Nat) : Prop := match s, x with
  | .view full _ xs, .view _ sz2 xs2 => full = true ∧ xs = [] ∧ (sz2 = ie.size ∨ xs2 = []) ∧ xs2.length ≤ 68719476736 ∧ ie.bytes ≤ 1024 ∧ ie.zero.length = ie.size ∧ b = .rows ie.size xs2 ∧ len = xs2.length
  | _, _ => False
def aMat (P : Program) (t t2 : TypeId) (s x : AV) (b : Blk) (len : Nat) : Prop := match tinfo P t, tinfo P t2 with
  | some i, some i2 => match i.desc, i2.desc.isSeq with
    | .slice e, true => match tinfo P e with
      | some ie => aMatE ie s x b len
      | none => False
    | _, _ => False
  | _, _ => False
def MatR (run : Result Next) (sn : Snap) (ρ : Env) (w : World) (b : Blk) (len : Nat) : Prop := ∃ cv w', run = .ok (.value cv) w' ∧
  ((∃ obj sz n, w'.heap = w.heap.push obj ∧ w'.os = w.os ∧ w'.tape = w.tape ∧ w'.output = w.output ∧ ∀ r, ρ r = none → BlkR sn (envPut ρ r ⟨w.heap.size, sz, n⟩) ⟨w.heap.size, sz, n⟩ b obj ∧ VR sn (envPut ρ r ⟨w.heap.size, sz, n⟩) (.sl r 0 len none) cv) ∨
   (w' = w ∧ ∀ r, VR sn ρ (.sl r 0 len none) cv))
theorem aMat_ok {P : Program} {sn : Snap} {ρ : Env} {H : Heap} {w : World} (hR : Rel sn ρ H w) {t t2 ty : TypeId} {s x : AV} {cs cx : Value} (hs : VR sn ρ s cs) (hx : VR sn ρ x cx) {b : Blk} {len : Nat} (h : aMat P t t2 s x b len) :
    MatR ((asNext (Builtin.append_ #[t, t2] ty #[cs, cx])).run P w) sn ρ w b len := by
  unfold aMat at h
  split at h
  · rename_i i i2 ht ht2
    split at h
    · rename_i e hd hd2
      split at h
      · rename_i ie hie
        unfold aMatE at h
        split at h
        · rename_i full z xs full2 sz2 xs2
          obtain ⟨hfu, rfl, hsz2, hb, hby, hzl, rfl, rfl⟩ := h
          obtain ⟨a, bb, o, c, vs, rfl, hle, hmx, hf, ha, hz, hcl, ho, hr⟩ := hs.view_inv
          have hel : aElems (.view full2 sz2 xs2) H = some (sz2, xs2) := rfl
          obtain ⟨g1, new, g2, g3⟩ := elems_ok (P := P) hR hx hel hsz2.symm rfl
          obtain ⟨k1, old, k2, k3⟩ := elems_ok (P := P) hR hs (x := .view full z []) (esz := ie.size) rfl (.inl rfl) rfl
          have hc := hf hfu
          subst hc
          obtain ⟨r1, r2⟩ := run_append (ty := ty) ht ht2 hd hd2 hie (a := a) (c := ([] : List (List AV)).length) g1 g2 k2 (by simpa using hb) hby (Nat.le_refl _)
          by_cases hn : xs2.length = 0
          · have e2 : xs2 = [] := List.length_eq_zero_iff.1 hn
            subst e2
            have hnil : new = #[] := by have := g3.1; simpa using this
            subst hnil
            have := r1 (by simp) w (by cases a <;> simp [storeCells])
            have this' : (Builtin.append_ #[t, t2] ty #[.slice a 0 0, cx]).run P w = .ok (.slice a 0 0) w := by simpa using this
            exact ⟨.slice a 0 0, w, by simp only [List.length_nil]; simp [asNext, this'], .inr ⟨rfl, fun r => by simpa using VR.sl0 (sn := sn) ρ r 0 none a (by simp)⟩⟩
          · obtain ⟨cap, zz, h1, h2, h3, h4⟩ := r2 (by simp; omega)
            have hzs : zz.cells.size = ie.size := by rw [← hzl, h3]; simp
            have ho0 : old = #[] := by have := k3.1; simpa using this
            subst ho0
            simp only [List.length_nil, Nat.zero_add, Array.empty_append] at h1 h2 h4
            have hcell : (new ++ Builtin.zeroCells zz.cells (cap - xs2.length)).size = cap * ie.size := by
              have a2 := g3.1
              simp only [Array.size_append, zeroCells_size, hzs, a2]
              rw [← Nat.add_mul]
              congr 1
              omega
            refine ⟨_, w.drew.alloc (.cells (new ++ Builtin.zeroCells zz.cells (cap - xs2.length)) e), by simp [asNext, h4]; rfl, .inl ⟨_, ie.size, (new ++ Builtin.zeroCells zz.cells (cap - xs2.length)).size, rfl, rfl, rfl, rfl, fun r hr => ⟨?_, ?_⟩⟩⟩
            · have hmono := envPut_mono (p := ⟨w.heap.size, ie.size, (new ++ Builtin.zeroCells zz.cells (cap - xs2.length)).size⟩) hr
              exact ((g3).mono (fun _ _ h => h) hmono).blk _ _
            · exact VR.sl _ _ _ _ cap none _ _ (envPut_same _ _ _) (fun _ => by simp) h1 h2 (by rw [hcell]; simp) (by simp)
        · exact h.elim
      · exact h.elim
    · exact h.elim
  · exact h.elim
end Go.AM
set_option linter.unusedVariables false
set_option linter.unusedSimpArgs false
namespace Go.AM
inductive CT where
  | b
  | i
  | s
def eqFs (P : Program) (g : TypeId → Option (List CT)) (t : TypeId) (n : Nat) : List Field → Nat → Option (List CT)
  | [], o => if o = n then some [] else none
  | f :: fs, o => if f.offset = o ∧ f.name ≠ "_" then match g f.type, eqFs P g t n fs (o + P.cellsOf f.type) with
    | some x, some y => some (x ++ y)
    | _, _ => none
    else none
def eqTy (P : Program) : Nat → TypeId → Option (List CT)
  | 0, _ => none
  | m + 1, t => match P.underlying t with
    | some .bool => if P.cellsOf t = 1 then some [.b] else none
    | some (.int _) => if P.cellsOf t = 1 then some [.i] else none
    | some .string => if P.cellsOf t = 1 then some [.s] else none
    | some (.array n e) => if n * P.cellsOf e = P.cellsOf t then (eqTy P m e).map fun l => (List.replicate n l).flatten else none
    | some (.struct fs) => if P.stoodInHeld t = false then eqFs P (eqTy P m) t (P.cellsOf t) fs.toList 0 else none
    | _ => none
def eqC : CT → AV → AV → Option Bool
  | .i, .int k a, .int k' b => if k = k' then some (decide (a = b)) else none
  | .b, .bool a, .bool b => some (decide (a = b))
  | .s, .str a, .str b => some (decide (a = b))
  | _, _, _ => none
def eqCs : List CT → List AV → List AV → Option Bool
  | [], [], [] => some true
  | c :: cs, x :: xs, y :: ys => match eqC c x y, eqCs cs xs ys with
    | some a, some b => some (a && b)
    | _, _ => none
  | _, _, _ => none
theorem eqCs_len : ∀ {cs : List CT} {xs ys : List AV} {b : Bool}, eqCs cs xs ys = some b → xs.length = cs.length ∧ ys.length = cs.length
  | [], [], [], _, _ => ⟨rfl, rfl⟩
  | c :: cs, x :: xs, y :: ys, b, h => by
    simp only [eqCs] at h
    split at h
    · rename_i a b' _ h2
      have := eqCs_len h2
      simp [this]
    · cases h
  | [], [], _ :: _, _, h => by simp [eqCs] at h
  | [], _ :: _, _, _, h => by simp [eqCs] at h
  | _ :: _, [], _, _, h => by simp [eqCs] at h
  | _ :: _, _ :: _, [], _, h => by simp [eqCs] at h
theorem eqCs_split : ∀ {c1 c2 : List CT} {xs ys : List AV} {b : Bool}, eqCs (c1 ++ c2) xs ys = some b → ∃ b1 b2, eqCs c1 (xs.take c1.length) (ys.take c1.length) = some b1 ∧ eqCs c2 (xs.drop c1.length) (ys.drop c1.length) = some b2 ∧ b = (b1 && b2)
  | [], c2, xs, ys, b, h => ⟨true, b, by simp [eqCs], by simpa using h, by simp⟩
  | c :: c1, c2, [], ys, b, h => by simp [eqCs] at h
  | c :: c1, c2, _ :: _, [], b, h => by simp [eqCs] at h
  | c :: c1, c2, x :: xs, y :: ys, b, h => by
    simp only [List.cons_append, eqCs] at h
    split at h
    · rename_i a b' h1 h2
      obtain ⟨b1, b2, g1, g2, rfl⟩ := eqCs_split h2
      refine ⟨a && b1, b2, by simp [eqCs, h1, g1], by simpa using g2, ?_⟩
      cases h
      simp [Bool.and_assoc]
    · cases h
def ValOf (P : Program) (t : TypeId) (v : Value) (cs : List Value) : Prop := match P.underlying t with
  | some (.struct _) | some (.array _ _) => v = .agg cs.toArray
  | _ => cs = [v]
section
variable {P : Program} (w : World) {sn : Snap} {ρ : Env}
theorem info_of_eqTy {m : Nat} {t : TypeId} {l : List CT} (h : eqTy P m t = some l) : ∃ i, P.info? t = some i := by
  cases m with
  | zero => simp [eqTy] at h
  | succ m =>
    unfold eqTy at h
    cases hu : P.underlying t with
    | none => simp [hu] at h
    | some d => exact info_of_underlying hu
theorem eqFs_len {g : TypeId → Option (List CT)} {t : TypeId} {n : Nat} (hg : ∀ u l, g u = some l → l.length = P.cellsOf u) : ∀ (fs : List Field) (o : Nat) (l : List CT), eqFs P g t n fs o = some l → o + l.length = n
  | [], o, l, h => by
    simp only [eqFs] at h
    split at h
    · cases h; simpa
    · cases h
  | f :: fs, o, l, h => by
    simp only [eqFs] at h
    split at h
    · split at h
      · rename_i x y hx hy
        cases h
        have := eqFs_len hg fs _ y hy
        have := hg _ _ hx
        simp; omega
      · cases h
    · cases h
theorem eqTy_len : ∀ (m : Nat) (t : TypeId) (l : List CT), eqTy P m t = some l → l.length = P.cellsOf t
  | 0, _, _, h => by simp [eqTy] at h
  | m + 1, t, l, h => by
    unfold eqTy at h
    split at h
    · split at h
      · rename_i h1; cases h; simp [h1]
      · cases h
    · split at h
      · rename_i h1; cases h; simp [h1]
      · cases h
    · split at h
      · rename_i h1; cases h; simp [h1]
      · cases h
    · split at h
      · rename_i n e hu h1
        rw [Option.map_eq_some_iff] at h
        obtain ⟨l', hl', rfl⟩ := h
        simp [eqTy_len m e l' hl', h1]
      · cases h
    · split at h
      · have := eqFs_len (eqTy_len m) _ 0 l h
        omega
      · cases h
    · cases h
theorem run_partV {m : Nat} {t : TypeId} {l : List CT} (h : eqTy P m t = some l) {xs : Array Value} {off : Nat} (hl : off + P.cellsOf t ≤ xs.size) : ∃ v, (part t xs off).run P w = .ok v w ∧ ValOf P t v ((xs.toList.drop off).take (P.cellsOf t)) := by
  obtain ⟨i, hi⟩ := info_of_eqTy h
  have hx : (xs.extract off (off + P.cellsOf t)).toList = (xs.toList.drop off).take (P.cellsOf t) := by
    rw [Array.toList_extract]
    simp [List.extract]
  have one : P.cellsOf t = 1 → ∃ v, xs[off]? = some v ∧ (xs.toList.drop off).take (P.cellsOf t) = [v] := fun h1 => by
    have hlt : off < xs.size := by omega
    refine ⟨xs[off], Array.getElem?_eq_getElem hlt, ?_⟩
    rw [h1, List.drop_eq_getElem_cons (by simpa using hlt)]
    simp
  cases m with
  | zero => simp [eqTy] at h
  | succ m =>
    unfold eqTy at h
    split at h
    · rename_i hu
      split at h
      · rename_i hc
        obtain ⟨v, h1, h2⟩ := one hc
        exact ⟨v, by simp [part, isAgg, run_underlying hu, h1], by simp only [ValOf, hu]; exact h2⟩
      · cases h
    · rename_i k hu
      split at h
      · rename_i hc
        obtain ⟨v, h1, h2⟩ := one hc
        exact ⟨v, by simp [part, isAgg, run_underlying hu, h1], by simp only [ValOf, hu]; exact h2⟩
      · cases h
    · rename_i hu
      split at h
      · rename_i hc
        obtain ⟨v, h1, h2⟩ := one hc
        exact ⟨v, by simp [part, isAgg, run_underlying hu, h1], by simp only [ValOf, hu]; exact h2⟩
      · cases h
    · rename_i n e hu
      exact ⟨.agg (xs.extract off (off + P.cellsOf t)), by simp [part, isAgg, run_underlying hu, run_sizeOf w hi], by simp only [ValOf, hu]; rw [← hx]⟩
    · rename_i fs hu
      exact ⟨.agg (xs.extract off (off + P.cellsOf t)), by simp [part, isAgg, run_underlying hu, run_sizeOf w hi], by simp only [ValOf, hu]; rw [← hx]⟩
    · cases h
def EqOk (P : Program) (w : World) (sn : Snap) (ρ : Env) (d : Nat) (t : TypeId) (l : List CT) : Prop := ∀ (xs ys : List AV) (cs ds : List Value) (x y : Value) (b : Bool), VRs sn ρ xs cs → VRs sn ρ ys ds → ValOf P t x cs → ValOf P t y ds → eqCs l xs ys = some b → (Op.equalIn d t x y).run P w = .ok b w
theorem VRs.take {xs : List AV} {cs : List Value} (n : Nat) (h : VRs sn ρ xs cs) : VRs sn ρ (xs.take n) (cs.take n) := by
  refine ⟨by simp [h.1], fun k x v hx hv => ?_⟩
  rw [List.getElem?_take] at hx hv
  split at hx
  · rename_i hk
    rw [if_pos hk] at hv
    exact h.2 k x v hx hv
  · cases hx
theorem VRs.drop {xs : List AV} {cs : List Value} (n : Nat) (h : VRs sn ρ xs cs) : VRs sn ρ (xs.drop n) (cs.drop n) := by
  refine ⟨by simp [h.1], fun k x v hx hv => ?_⟩
  rw [List.getElem?_drop] at hx hv
  exact h.2 _ x v hx hv
theorem run_eqFieldsV {m d : Nat} {xs ys : List AV} {cs ds : Array Value} {t : TypeId} (hok : ∀ u l, eqTy P m u = some l → EqOk P w sn ρ d u l) (hx : VRs sn ρ xs cs.toList) (hy : VRs sn ρ ys ds.toList) :
    ∀ (fs : List Field) (o : Nat) (l : List CT) (b : Bool), eqFs P (eqTy P m) t cs.size fs o = some l → eqCs l (xs.drop o) (ys.drop o) = some b → cs.size = ds.size → (Op.eqFields d cs ds fs).run P w = .ok b w
  | [], o, l, b, ht, h, _ => by
    simp only [eqFs] at ht
    split at ht
    · rename_i ho
      cases ht
      have h1 : xs.drop o = [] := by rw [List.drop_eq_nil_iff, ← hx.1]; simp; omega
      rw [h1] at h
      cases hys : ys.drop o with
      | nil =>
        rw [hys] at h
        cases h
        simp [Op.eqFields]
      | cons z zs =>
        rw [hys] at h
        simp [eqCs] at h
    · cases ht
  | f :: fs, o, l, b, ht, h, hsize => by
    have hlen := eqFs_len (eqTy_len m) _ _ _ ht
    simp only [eqFs] at ht
    split at ht
    · rename_i hof
      split at ht
      · rename_i l1 l2 hl1 hl2
        cases ht
        have hc := eqTy_len m _ _ hl1
        obtain ⟨b1, b2, g1, g2, rfl⟩ := eqCs_split h
        rw [hc, List.drop_drop, List.drop_drop] at g2
        have h2 := run_eqFieldsV hok hx hy fs _ l2 b2 hl2 g2 hsize
        have hsz : f.offset + P.cellsOf f.type ≤ cs.size := by simp at hlen; omega
        obtain ⟨u, p1, p2⟩ := run_partV w hl1 hsz
        obtain ⟨v, q1, q2⟩ := run_partV w (xs := ds) hl1 (off := f.offset) (by omega)
        rw [hc, ← hof.1] at g1
        have he := hok _ _ hl1 _ _ _ _ u v b1 ((hx.drop f.offset).take (P.cellsOf f.type)) ((hy.drop f.offset).take (P.cellsOf f.type)) p2 q2 g1
        simp only [Op.eqFields, hof.2, ne_eq, not_false_eq_true, if_true, Sem.run_bind, p1, q1, he, Result.andThen_ok]
        cases b1
        · simp
        · simpa using h2
      · cases ht
    · cases ht
theorem run_eqItemsV {m d : Nat} {e : TypeId} {l : List CT} (hty : eqTy P m e = some l) (hok : EqOk P w sn ρ d e l) {xs ys : List AV} {cs ds : Array Value} (hx : VRs sn ρ xs cs.toList) (hy : VRs sn ρ ys ds.toList) (hl : cs.size = ds.size) :
    ∀ (k i : Nat) (b : Bool), (i + k) * P.cellsOf e = cs.size → eqCs (List.replicate k l).flatten (xs.drop (i * P.cellsOf e)) (ys.drop (i * P.cellsOf e)) = some b → (Op.eqItems d e (P.cellsOf e) cs ds (List.range' i k)).run P w = .ok b w
  | 0, i, b, hs, h => by
    have := eqCs_len h
    simp only [List.replicate_zero, List.flatten_nil, List.length_nil, List.length_eq_zero_iff] at this
    rw [this.1, this.2] at h
    cases h
    simp [Op.eqItems]
  | k + 1, i, b, hs, h => by
    rw [List.replicate_succ, List.flatten_cons] at h
    have hc := eqTy_len m _ _ hty
    obtain ⟨b1, b2, g1, g2, rfl⟩ := eqCs_split h
    have e1 : i * P.cellsOf e + P.cellsOf e = (i + 1) * P.cellsOf e := by rw [Nat.add_mul]; omega
    rw [hc, List.drop_drop, List.drop_drop, e1] at g2
    have h2 := run_eqItemsV hty hok hx hy hl k (i + 1) b2 (by rw [← hs]; congr 1; omega) g2
    have hsz : i * P.cellsOf e + P.cellsOf e ≤ cs.size := by
      rw [e1, ← hs]
      exact Nat.mul_le_mul_right _ (by omega)
    obtain ⟨u, p1, p2⟩ := run_partV w hty hsz
    obtain ⟨v, q1, q2⟩ := run_partV w (xs := ds) hty (off := i * P.cellsOf e) (by omega)
    rw [hc] at g1
    have he := hok _ _ _ _ u v b1 ((hx.drop (i * P.cellsOf e)).take (P.cellsOf e)) ((hy.drop (i * P.cellsOf e)).take (P.cellsOf e)) p2 q2 g1
    rw [List.range'_succ]
    simp only [Op.eqItems, Sem.run_bind, p1, q1, he, Result.andThen_ok]
    cases b1
    · simp
    · simpa using h2
theorem run_equalV (d : Nat) : ∀ (m : Nat) (t : TypeId) (l : List CT), eqTy P m t = some l → EqOk P w sn ρ (d + m) t l
  | 0, _, _, h => by simp [eqTy] at h
  | m + 1, t, l, h => by
    intro xs ys cs ds x y b hx hy hvx hvy he
    have hlen := eqCs_len he
    have hll := eqTy_len _ _ _ h
    unfold eqTy at h
    have one : ∀ c, l = [c] → cs = [x] → ds = [y] → ∃ a a', VR sn ρ a x ∧ VR sn ρ a' y ∧ eqC c a a' = some b := fun c h1 e1 e2 => by
      subst e1 e2 h1
      match xs, ys, hx, hy, he with
      | [a], [a'], hx, hy, he =>
        refine ⟨a, a', hx.2 0 a x rfl rfl, hy.2 0 a' y rfl rfl, ?_⟩
        simp only [eqCs] at he
        split at he
        · rename_i p q h1 h2
          cases h2
          cases he
          simpa using h1
        · cases he
      | [], _, hx, _, _ => have := hx.1; simp at this
      | _ :: _ :: _, _, hx, _, _ => have := hx.1; simp at this
      | [_], [], _, hy, _ => have := hy.1; simp at this
      | [_], _ :: _ :: _, _, hy, _ => have := hy.1; simp at this
    rw [show d + (m + 1) = (d + m) + 1 from rfl]
    split at h
    · rename_i hu
      simp only [ValOf, hu] at hvx hvy
      split at h
      · cases h
        obtain ⟨a, c, h1, h2, h3⟩ := one _ rfl hvx hvy
        cases a <;> cases c <;> simp [eqC] at h3
        cases h1
        cases h2
        rw [run_equalIn_bool w _ t _ _ hu, ← h3]
        rfl
      · cases h
    · rename_i k hu
      simp only [ValOf, hu] at hvx hvy
      split at h
      · cases h
        obtain ⟨a, c, h1, h2, h3⟩ := one _ rfl hvx hvy
        cases a <;> cases c <;> simp [eqC] at h3
        obtain ⟨rfl, h3⟩ := h3
        cases h1
        cases h2
        rw [run_equalIn_int w _ t _ _ _ _ hu, ← h3]
        rfl
      · cases h
    · rename_i hu
      simp only [ValOf, hu] at hvx hvy
      split at h
      · cases h
        obtain ⟨a, c, h1, h2, h3⟩ := one _ rfl hvx hvy
        cases a <;> cases c <;> simp [eqC] at h3
        cases h1
        cases h2
        rw [run_equalIn_string w _ t _ _ hu, ← h3]
        rename_i p q
        have : (p.toList = q.toList) ↔ p = q := by simp [ByteArray.toList_eq, ByteArray.ext_iff, Array.toList_inj]
        congr 1
        by_cases hpq : p = q
        · simp [hpq]
        · simp [hpq, this]
      · cases h
    · rename_i n e hu
      simp only [ValOf, hu] at hvx hvy
      subst hvx hvy
      split at h
      · rename_i hn
        rw [Option.map_eq_some_iff] at h
        obtain ⟨l', hl', rfl⟩ := h
        obtain ⟨i, hi⟩ := info_of_eqTy hl'
        rw [run_equalIn_array w (d + m) _ _ hu hi, List.range_eq_range']
        have hsz : cs.toArray.size = ds.toArray.size := by
          have h1 := hx.1; have h2 := hy.1
          simp; omega
        refine run_eqItemsV w hl' (run_equalV d m e l' hl') (xs := xs) (ys := ys) (by simpa using hx) (by simpa using hy) hsz n 0 b ?_ (by simpa using he)
        have h1 := hx.1
        simp; omega
      · cases h
    · rename_i fs hu
      simp only [ValOf, hu] at hvx hvy
      subst hvx hvy
      split at h
      · rename_i hst
        have hfs : P.fieldsOf t = fs := by simp [Program.fieldsOf, hu]
        rw [run_equalIn_struct w (d + m) t _ _ (by rw [hfs]; exact hu) hst, hfs]
        have h1 := hx.1; have h2 := hy.1
        refine run_eqFieldsV (m := m) (t := t) w (fun u l hl => run_equalV d m u l hl) (xs := xs) (ys := ys) (by simpa using hx) (by simpa using hy) fs.toList 0 l b ?_ (by simpa using he) (by simp; omega)
        have : cs.toArray.size = P.cellsOf t := by simp; omega
        rw [this]; exact h
      · cases h
    · cases h
end
def aEqTy (P : Program) (t : TypeId) : Option (List CT) := if P.eqGuardType P.depth t = false then eqTy P 12 t else none
def aAggEqB (op : BinOp) : Option Bool → AR
  | some b => match op with
    | .eql => .val (.bool b)
    | .neq => .val (.bool (!b))
    | _ => .bad
  | none => .bad
def aAggEqL (op : BinOp) (xs ys : List AV) : Option (List CT) → AR
  | some l => aAggEqB op (eqCs l xs ys)
  | none => .bad
def aAggEq (P : Program) (op : BinOp) (t : TypeId) (xs ys : List AV) : AR := aAggEqL op xs ys (aEqTy P t)
theorem eqTy_agg {P : Program} {m : Nat} {t : TypeId} {l : List CT} (h : eqTy P m t = some l) {xs ys : List AV} {cs ds : Array Value} {b : Bool} {sn : Snap} {ρ : Env} (hx : VR sn ρ (.agg xs) (.agg cs)) (hy : VR sn ρ (.agg ys) (.agg ds)) (he : eqCs l xs ys = some b) (d : Nat) (w : World)
    (hagg : (match P.underlying t with | some (.struct _) | some (.array _ _) => true | _ => false) = true) : (Op.equalIn (d + m) t (.agg cs) (.agg ds)).run P w = .ok b w := by
  have key : ∀ {xs : List AV} {cs : Array Value}, VR sn ρ (.agg xs) (.agg cs) → VRs sn ρ xs cs.toList := fun hx => by
    cases hx with
    | agg _ _ _ hs h => exact ⟨by simpa using hs, fun k x v hk hv => h k x v hk (by simpa using hv)⟩
  have hv : ∀ cs : Array Value, ValOf P t (.agg cs) cs.toList := fun cs => by
    unfold ValOf
    split at hagg <;> simp_all
  exact run_equalV w d m t l h xs ys cs.toList ds.toList _ _ b (key hx) (key hy) (hv cs) (hv ds) he
theorem aAggEq_ok {P : Program} {sn : Snap} {ρ : Env} {H : Heap} {w : World} {op : BinOp} {t : TypeId} {xs ys : List AV} {cx cy : Value} (hx : VR sn ρ (.agg xs) cx) (hy : VR sn ρ (.agg ys) cy) (x y : Operand) (hagg : (match P.underlying t with | some (.struct _) | some (.array _ _) => true | _ => false) = true) :
    (aAggEq P op t xs ys).ok P ((asNext (do eqGuard op t x y cx cy; binOp op t cx cy)).run P w) sn ρ H w := by
  unfold aAggEq aAggEqL
  split
  · rename_i l hl
    unfold aEqTy at hl
    split at hl
    · rename_i hg
      unfold aAggEqB
      split
      · rename_i b hb
        obtain ⟨cs, rfl⟩ : ∃ cs, cx = .agg cs := by cases hx; exact ⟨_, rfl⟩
        obtain ⟨ds, rfl⟩ : ∃ ds, cy = .agg ds := by cases hy; exact ⟨_, rfl⟩
        have he : (Op.equal t (.agg cs) (.agg ds)).run P w = .ok b w := eqTy_agg hl hx hy hb 9988 w hagg
        split
        · exact ⟨.bool b, by simp [asNext, eqGuard, hg, binOp, he], .bool _ _⟩
        · exact ⟨.bool (!b), by simp [asNext, eqGuard, hg, binOp, he], .bool _ _⟩
        · trivial
      · trivial
    · cases hl
  · trivial
end Go.AM
set_option linter.unusedVariables false
set_option linter.unusedSimpArgs false
namespace Go.AM
def bAnd (k : IntKind) (a b : Int) : Int := k.wrap (BitVec.ofInt k.bits a &&& BitVec.ofInt k.bits b).toNat
def bOr (k : IntKind) (a b : Int) : Int := k.wrap (BitVec.ofInt k.bits a ||| BitVec.ofInt k.bits b).toNat
def bXor (k : IntKind) (a b : Int) : Int := k.wrap (BitVec.ofInt k.bits a ^^^ BitVec.ofInt k.bits b).toNat
def bAndNot (k : IntKind) (a b : Int) : Int := k.wrap (BitVec.ofInt k.bits a &&& ~~~BitVec.ofInt k.bits b).toNat
def iw (k : IntKind) (n : Int) : Int := k.wrap n
theorem iw64 {n : Int} (h1 : -9223372036854775808 ≤ n) (h2 : n ≤ 9223372036854775807) : iw .i64 n = n := by simp [iw, IntKind.wrap, IntKind.signed, IntKind.bits]; omega
theorem iwu8 {n : Int} (h1 : 0 ≤ n) (h2 : n ≤ 255) : iw .u8 n = n := by simp [iw, IntKind.wrap, IntKind.signed, IntKind.bits]; omega
def aInts (op : BinOp) (k : IntKind) (a b : Int) : AR := match op with
  | .add => .val (.int k (iw k (a + b)))
  | .sub => .val (.int k (iw k (a - b)))
  | .mul => .val (.int k (iw k (a * b)))
  | .quo => .chk (b ≠ 0) (.val (.int k (iw k (a.tdiv b))))
  | .rem => .chk (b ≠ 0) (.val (.int k (a.tmod b)))
  | .eql => .val (.bool (decide (a = b)))
  | .neq => .val (.bool (decide (a ≠ b)))
  | .lss => .val (.bool (decide (a < b)))
  | .leq => .val (.bool (decide (a ≤ b)))
  | .gtr => .val (.bool (decide (b < a)))
  | .geq => .val (.bool (decide (b ≤ a)))
  | .and => .val (.int k (bAnd k a b))
  | .or => .val (.int k (bOr k a b))
  | .xor => .val (.int k (bXor k a b))
  | .andNot => .val (.int k (bAndNot k a b))
  | _ => .bad
def aShift (op : BinOp) (k : IntKind) (a b : Int) : AR := match op with
  | .shl => .chk (0 ≤ b) (.val (.int k (iw k (a * 2 ^ (min b.toNat k.bits)))))
  | .shr => .chk (0 ≤ b) (.val (.int k (a.fdiv (2 ^ (min b.toNat k.bits)))))
  | _ => .bad
def aBools (op : BinOp) (a b : Bool) : AR := match op with
  | .eql => .val (.bool (a == b))
  | .neq => .val (.bool (a != b))
  | _ => .bad
def aStrs (op : BinOp) (a b : ByteArray) : AR := match op with
  | .eql => .val (.bool (a.toList == b.toList))
  | .neq => .val (.bool (!(a.toList == b.toList)))
  | .add => .chk (((a.size + b.size : Nat) : Int) ≤ IntKind.i64.max) (.val (.str (a ++ b)))
  | .lss => .val (.bool (Op.bytesLess a.toList b.toList))
  | .gtr => .val (.bool (!(Op.bytesLess a.toList b.toList || a.toList == b.toList)))
  | .leq => .val (.bool (Op.bytesLess a.toList b.toList || a.toList == b.toList))
  | .geq => .val (.bool (!Op.bytesLess a.toList b.toList))
  | _ => .bad
def aNil (op : BinOp) (isNil : Bool) : AR := match op with
  | .eql => .val (.bool isNil)
  | .neq => .val (.bool (!isNil))
  | _ => .bad
def aNilSl (op : BinOp) (n : Nat) : AR := match op with
  | .eql => .ndb (fun b => n ≠ 0 → b = false)
  | .neq => .ndb (fun b => n ≠ 0 → b = true)
  | _ => .bad
def aInt2 (op : BinOp) (k k' : IntKind) (a b : Int) : AR :=
  match op with
  | .shl => aShift .shl k a b
  | .shr => aShift .shr k a b
  | op => if k = k' then aInts op k a b else .bad
def aBin (op : BinOp) (d : TD) (x y : AV) : AR := match x, y with
  | .int k a, .int k' b => aInt2 op k k' a b
  | .bool a, .bool b => match d with | .bool => aBools op a b | _ => .bad
  | .str a, .str b => aStrs op a b
  | .ptr _ _ _, .nilptr | .cptr _ _, .nilptr => match d with | .ptr _ => aNil op false | _ => .bad
  | .nilptr, .nilptr => match d with | .ptr _ => aNil op true | _ => .bad
  | .func _ _ _, .nilfunc => match d with | .func => aNil op false | _ => .bad
  | .nilfunc, .nilfunc => match d with | .func => aNil op true | _ => .bad
  | .iface _ _, .nilif => match d with | .iface => aNil op false | _ => .bad
  | _, _ => .bad
def AV.slLen : AV → Option Nat
  | .view _ _ xs => some xs.length
  | .sl _ _ len _ => some len
  | _ => none
def aNilSlO (op : BinOp) (d : TD) (n : Option Nat) : AR := match d, n with
  | .slice _, some n => aNilSl op n
  | _, _ => .bad
def isNilSl : Operand → Bool
  | .const (.slice none 0 0) => true
  | _ => false
def isNilIf : Operand → Bool
  | .const .nilIface => true
  | _ => false
def aNilIf (op : BinOp) (d : TD) (x : AV) : AR := match d, x with
  | .iface, .nilif => aNil op true
  | .iface, .iface _ _ => aNil op false
  | _, _ => .bad
def aAggs (P : Program) (op : BinOp) (t : TypeId) (x v : AV) : AR := match x, v with
  | .agg xs, .agg ys => aAggEq P op t xs ys
  | _, _ => .bad
def aBinO (P : Program) (op : BinOp) (t : TypeId) (y : Operand) (x v : AV) : AR := match tinfo P t with
  | some i => if isNilSl y then aNilSlO op i.desc x.slLen else if isNilIf y then aNilIf op i.desc x else if i.desc.isAgg = true then aAggs P op t x v else aBin op i.desc x v
  | none => .bad
theorem run_eqGuard {P : Program} {op : BinOp} {t : TypeId} {x y : Operand} {a b : Value} (h1 : ¬ (a = .nilIface ∧ b = .nilIface)) (h2 : ∀ c d, ¬ (a = .agg c ∧ b = .agg d)) (w : World) : (eqGuard op t x y a b).run P w = .ok () w := by
  unfold eqGuard
  cases op <;> simp
  all_goals
    split
    · exact absurd ⟨rfl, rfl⟩ h1
    · rename_i c d
      exact absurd ⟨rfl, rfl⟩ (h2 c d)
    · simp
theorem aInts_ok {P : Program} {sn : Snap} {ρ : Env} {H : Heap} {w : World} {t : TypeId} (op : BinOp) (k : IntKind) (a b : Int) (hs : op ≠ .shl ∧ op ≠ .shr) : (aInts op k a b).ok P ((asNext (binOp op t (.int k a) (.int k b))).run P w) sn ρ H w := by
  cases op <;> simp only [aInts]
  case shl => exact absurd rfl hs.1
  case shr => exact absurd rfl hs.2
  case quo => intro hb; exact ⟨.int k (iw k (a.tdiv b)), by simp [asNext, binOp, Op.intDiv, hb, iw], .int _ _ _⟩
  case rem => intro hb; exact ⟨.int k (a.tmod b), by simp [asNext, binOp, Op.intDiv, hb, iw], .int _ _ _⟩
  case eql => exact ⟨.bool (decide (a = b)), by simp [asNext, binOp, Op.intCmp]; rfl, .bool _ _⟩
  case neq => exact ⟨.bool (decide (a ≠ b)), by simp [asNext, binOp, Op.intCmp, bne]; by_cases h : a = b <;> simp [h], .bool _ _⟩
  case lss => exact ⟨.bool (decide (a < b)), by simp [asNext, binOp, Op.intCmp], .bool _ _⟩
  case leq => exact ⟨.bool (decide (a ≤ b)), by simp [asNext, binOp, Op.intCmp], .bool _ _⟩
  case gtr => exact ⟨.bool (decide (b < a)), by simp [asNext, binOp, Op.intCmp], .bool _ _⟩
  case geq => exact ⟨.bool (decide (b ≤ a)), by simp [asNext, binOp, Op.intCmp], .bool _ _⟩
  case add => exact ⟨.int k (iw k (a + b)), by simp [asNext, binOp, Op.intArith, iw], .int _ _ _⟩
  case sub => exact ⟨.int k (iw k (a - b)), by simp [asNext, binOp, Op.intArith, iw], .int _ _ _⟩
  case mul => exact ⟨.int k (iw k (a * b)), by simp [asNext, binOp, Op.intArith, iw], .int _ _ _⟩
  case and => exact ⟨.int k (bAnd k a b), by simp [asNext, binOp, Op.intBits, bAnd], .int _ _ _⟩
  case or => exact ⟨.int k (bOr k a b), by simp [asNext, binOp, Op.intBits, bOr], .int _ _ _⟩
  case xor => exact ⟨.int k (bXor k a b), by simp [asNext, binOp, Op.intBits, bXor], .int _ _ _⟩
  case andNot => exact ⟨.int k (bAndNot k a b), by simp [asNext, binOp, Op.intBits, bAndNot], .int _ _ _⟩
theorem aShift_ok {P : Program} {sn : Snap} {ρ : Env} {H : Heap} {w : World} {t : TypeId} (op : BinOp) (k k' : IntKind) (a b : Int) : (aShift op k a b).ok P ((asNext (binOp op t (.int k a) (.int k' b))).run P w) sn ρ H w := by
  cases op <;> simp only [aShift]
  case shl =>
    intro hb
    have : ¬ b < 0 := by omega
    exact ⟨.int k (iw k (a * 2 ^ (min b.toNat k.bits))), by simp [asNext, binOp, Op.shift, this, iw], .int _ _ _⟩
  case shr =>
    intro hb
    have : ¬ b < 0 := by omega
    exact ⟨.int k (a.fdiv (2 ^ (min b.toNat k.bits))), by simp [asNext, binOp, Op.shift, this, iw], .int _ _ _⟩
  all_goals trivial
theorem eqk_ok {P : Program} {sn : Snap} {ρ : Env} {H : Heap} {w : World} {t : TypeId} {cx cy : Value} {ox oy : Operand} (op : BinOp) (b : Bool) (hg : ∀ w, (eqGuard op t ox oy cx cy).run P w = .ok () w)
    (heq : ∀ d, (Op.equalIn (d + 1) t cx cy).run P w = .ok b w) (h1 : binOp .eql t cx cy = (do pure (.bool (← Op.equal t cx cy)))) (h2 : binOp .neq t cx cy = (do pure (.bool (!(← Op.equal t cx cy))))) :
    (aNil op b).ok P ((asNext (do eqGuard op t ox oy cx cy; binOp op t cx cy)).run P w) sn ρ H w := by
  have he : (Op.equal t cx cy).run P w = .ok b w := heq 9999
  cases op <;> simp only [aNil]
  case eql => exact ⟨.bool b, by simp [asNext, hg, h1, he], .bool _ _⟩
  case neq => exact ⟨.bool (!b), by simp [asNext, hg, h2, he], .bool _ _⟩
  all_goals trivial
theorem aBools_nil (op : BinOp) (a b : Bool) : aBools op a b = aNil op (a == b) := by cases op <;> simp [aBools, aNil, bne]
theorem aBin_ok {P : Program} {sn : Snap} {ρ : Env} {H : Heap} {w : World} {op : BinOp} {t : TypeId} {i : TI} (ht : tinfo P t = some i) {x y : AV} {cx cy : Value} (hx : VR sn ρ x cx) (hy : VR sn ρ y cy) (ox oy : Operand) :
    (aBin op i.desc x y).ok P ((asNext (do eqGuard op t ox oy cx cy; binOp op t cx cy)).run P w) sn ρ H w := by
  obtain ⟨d, hd, hdd, hun⟩ := run_under_ti ht w
  unfold aBin
  split
  · rename_i k a k' b
    cases hx
    cases hy
    have hg : ∀ w, (eqGuard op t ox oy (.int k a) (.int k' b)).run P w = .ok () w := run_eqGuard (by simp) (by simp)
    have he : (asNext (do eqGuard op t ox oy (.int k a) (.int k' b); binOp op t (.int k a) (.int k' b))).run P w = (asNext (binOp op t (.int k a) (.int k' b))).run P w := by simp [asNext, hg]
    rw [he]
    unfold aInt2
    split
    · exact aShift_ok _ _ _ _ _
    · exact aShift_ok _ _ _ _ _
    · rename_i h1 h2
      split
      · rename_i hk
        subst hk
        exact aInts_ok op k a b ⟨h1, h2⟩
      · trivial
  · rename_i a b
    cases hx
    cases hy
    split
    · rename_i he
      rw [hdd] at he
      cases d <;> simp [TD.of] at he
      rw [aBools_nil]
      exact eqk_ok op _ (run_eqGuard (by simp) (by simp)) (fun d => by simp [Op.equalIn, hd]) rfl rfl
    · trivial
  · rename_i a b
    cases hx
    cases hy
    have hg : ∀ w, (eqGuard op t ox oy (.string a) (.string b)).run P w = .ok () w := run_eqGuard (by simp) (by simp)
    cases op <;> simp only [aStrs]
    case add =>
      intro hl
      have h3 : (a.size : Int) + b.size ≤ 9223372036854775807 := by simpa [IntKind.max, IntKind.signed, IntKind.bits] using hl
      exact ⟨.string (a ++ b), by simp [asNext, hg, binOp, Op.stringOp, h3, IntKind.max, IntKind.signed, IntKind.bits], .str _ _⟩
    case eql => exact ⟨.bool (a.toList == b.toList), by simp [asNext, hg, binOp, Op.stringOp], .bool _ _⟩
    case neq => exact ⟨.bool (!(a.toList == b.toList)), by simp [asNext, hg, binOp, Op.stringOp], .bool _ _⟩
    case lss => exact ⟨.bool (Op.bytesLess a.toList b.toList), by simp [asNext, hg, binOp, Op.stringOp], .bool _ _⟩
    case leq => exact ⟨.bool (Op.bytesLess a.toList b.toList || a.toList == b.toList), by simp [asNext, hg, binOp, Op.stringOp], .bool _ _⟩
    case gtr => exact ⟨.bool (!(Op.bytesLess a.toList b.toList || a.toList == b.toList)), by simp [asNext, hg, binOp, Op.stringOp], .bool _ _⟩
    case geq => exact ⟨.bool (!Op.bytesLess a.toList b.toList), by simp [asNext, hg, binOp, Op.stringOp], .bool _ _⟩
    all_goals trivial
  · rename_i r e j
    cases hx
    rename_i p hp
    cases hy
    split
    · rename_i q he
      rw [hdd] at he
      cases d <;> simp [TD.of] at he
      exact eqk_ok op _ (run_eqGuard (by simp) (by simp)) (fun d => by simp [Op.equalIn, hd]) rfl rfl
    · trivial
  · rename_i row j
    cases hx
    rename_i b o vs hc ho hr
    cases hy
    split
    · rename_i q he
      rw [hdd] at he
      cases d <;> simp [TD.of] at he
      exact eqk_ok op _ (run_eqGuard (by simp) (by simp)) (fun d => by simp [Op.equalIn, hd]) rfl rfl
    · trivial
  · cases hx
    cases hy
    split
    · rename_i q he
      rw [hdd] at he
      cases d <;> simp [TD.of] at he
      exact eqk_ok op _ (run_eqGuard (by simp) (by simp)) (fun d => by simp [Op.equalIn, hd]) rfl rfl
    · trivial
  · cases hx
    rename_i fn xs ys us vs hu hv h1 h2
    cases hy
    split
    · rename_i he
      rw [hdd] at he
      cases d <;> simp [TD.of] at he
      exact eqk_ok op _ (run_eqGuard (by simp) (by simp)) (fun d => by simp [Op.equalIn, hd]) rfl rfl
    · trivial
  · cases hx
    cases hy
    split
    · rename_i he
      rw [hdd] at he
      cases d <;> simp [TD.of] at he
      exact eqk_ok op _ (run_eqGuard (by simp) (by simp)) (fun d => by simp [Op.equalIn, hd]) rfl rfl
    · trivial
  · rename_i u v
    cases hx
    rename_i cv hcv
    cases hy
    split
    · rename_i he
      rw [hdd] at he
      cases d <;> simp [TD.of] at he
      exact eqk_ok op _ (run_eqGuard (by simp) (by simp)) (fun d => by simp [Op.equalIn, hd]) rfl rfl
    · trivial
  · trivial
theorem aBinO_ok {P : Program} {sn : Snap} {ρ : Env} {n : Nat} {H : Heap} {w : World} {s : Ch} {a : Act} (hg : GlOk sn) (hs : SR sn ρ n s a.tmps) (op : BinOp) (t : TypeId) (x y : Operand) :
    (aBinO P op t y (cev s x) (cev s y)).ok P ((asNext (do eqGuard op t x y (a.eval x) (a.eval y); binOp op t (a.eval x) (a.eval y))).run P w) sn ρ H w := by
  have hx := cev_ok hg hs x
  have hy := cev_ok hg hs y
  unfold aBinO
  split
  · rename_i i ht
    split
    · rename_i hny
      obtain ⟨d, hd, hdd, hun⟩ := run_under_ti ht w
      have hyv : a.eval y = .slice none 0 0 := by
        unfold isNilSl at hny
        split at hny
        · rfl
        · cases hny
      rw [hyv]
      unfold aNilSlO
      split
      · rename_i e m hde hm
        rw [hdd] at hde
        cases d <;> simp [TD.of] at hde
        have key : ∃ (aa : Option Addr) (c : Nat), a.eval x = .slice aa m c ∧ (m ≠ 0 → aa.isSome = true) := by
          generalize cev s x = ax at hx hm
          cases ax <;> simp [AV.slLen] at hm
          · subst hm
            obtain ⟨aa, b, o, c, vs, he, hl, hmx, hf, ha, _⟩ := hx.view_inv
            exact ⟨aa, c, he, fun h => by rw [ha (fun e => h (by simp [e]))]; rfl⟩
          · subst hm
            obtain ⟨aa, c, he, hl, hmx, hc, hcase⟩ := hx.sl_inv
            refine ⟨aa, c, he, fun h => ?_⟩
            rcases hcase with e0 | ⟨p, _, hp, _⟩
            · omega
            · rw [hp]; rfl
        obtain ⟨aa, c, he, hsome⟩ := key
        rw [he]
        have hg : ∀ w, (eqGuard op t x y (.slice aa m c) (.slice none 0 0)).run P w = .ok () w := run_eqGuard (by simp) (by simp)
        have heq : (Op.equal t (.slice aa m c) (.slice none 0 0)).run P w = .ok aa.isNone w := by
          have : ∀ d, (Op.equalIn (d + 1) t (.slice aa m c) (.slice none 0 0)).run P w = .ok aa.isNone w := fun d => by
            cases aa <;> simp [Op.equalIn, hd]
          exact this 9999
        have b1 : binOp .eql t (.slice aa m c) (.slice none 0 0) = (do pure (.bool (← Op.equal t (.slice aa m c) (.slice none 0 0)))) := rfl
        have b2 : binOp .neq t (.slice aa m c) (.slice none 0 0) = (do pure (.bool (!(← Op.equal t (.slice aa m c) (.slice none 0 0))))) := rfl
        cases op <;> simp only [aNilSl]
        case eql => exact ⟨aa.isNone, by simp [asNext, hg, b1, heq], fun h => by have := hsome h; cases aa <;> simp_all⟩
        case neq => exact ⟨!aa.isNone, by simp [asNext, hg, b2, heq], fun h => by have := hsome h; cases aa <;> simp_all⟩
        all_goals trivial
      · trivial
    · split
      · rename_i hny
        obtain ⟨d, hd, hdd, hun⟩ := run_under_ti ht w
        have hyv : y = .const .nilIface := by
          unfold isNilIf at hny
          split at hny
          · rfl
          · cases hny
        subst hyv
        have hyv : a.eval (.const .nilIface) = .nilIface := rfl
        rw [hyv]
        unfold aNilIf
        split
        · rename_i hde hxe
          rw [hdd] at hde
          rw [hxe] at hx
          generalize a.eval x = cx at hx
          cases hx
          cases d <;> simp [TD.of] at hde
          refine eqk_ok op true (fun w => ?_) (fun d => by simp [Op.equalIn, hd]) rfl rfl
          unfold eqGuard
          cases op <;> simp
        · rename_i u v hde hxe
          rw [hdd] at hde
          rw [hxe] at hx
          generalize a.eval x = cx at hx
          cases hx
          cases d <;> simp [TD.of] at hde
          exact eqk_ok op false (run_eqGuard (by simp) (by simp)) (fun d => by simp [Op.equalIn, hd]) rfl rfl
        · trivial
      · split
        · rename_i hag
          obtain ⟨d, hd, hdd, hun⟩ := run_under_ti ht w
          unfold aAggs
          split
          · rename_i xs ys hxe hye
            rw [hxe] at hx
            rw [hye] at hy
            refine aAggEq_ok hx hy x y ?_
            rw [show P.underlying t = some d from hun]
            rw [hdd] at hag
            cases d <;> simp_all [TD.isAgg, TD.of]
          · trivial
        · exact aBin_ok ht hx hy x y
  · trivial
def aUn (op : UnOp) (x : AV) : AR := match op, x with
  | .not, .bool b => .val (.bool (!b))
  | .neg, .int k n => .val (.int k (iw k (0 - n)))
  | .xor, .int k n => .val (.int k (bXor k (if k.signed then -1 else k.max) n))
  | _, _ => .bad
theorem aUn_ok {P : Program} {sn : Snap} {ρ : Env} {H : Heap} {w : World} (op : UnOp) {x : AV} {cx : Value} (hx : VR sn ρ x cx) : (aUn op x).ok P ((asNext (Op.unary op cx)).run P w) sn ρ H w := by
  unfold aUn
  split
  · cases hx
    exact ⟨.bool _, by simp [asNext, Op.unary], .bool _ _⟩
  · cases hx
    exact ⟨.int _ _, by simp [asNext, Op.unary, Op.intArith, iw], .int _ _ _⟩
  · cases hx
    exact ⟨.int _ _, by simp [asNext, Op.unary, Op.intBits, bXor], .int _ _ _⟩
  · trivial
def aExtract (x : AV) (k : Nat) : AR := match x with
  | .tuple vs => match vs[k]? with | some v => .val v | none => .bad
  | _ => .bad
theorem aExtract_ok {P : Program} {sn : Snap} {ρ : Env} {H : Heap} {w : World} {x : AV} {cx : Value} (hx : VR sn ρ x cx) (k : Nat) : (aExtract x k).ok P ((asNext (Instr.extract cx k)).run P w) sn ρ H w := by
  unfold aExtract
  split
  · rename_i vs
    split
    · rename_i v hv
      cases hx
      rename_i ys hs h
      have hlt : k < ys.size := by rw [hs]; exact (List.getElem?_eq_some_iff.1 hv).1
      have he := Array.getElem?_eq_getElem hlt
      exact ⟨ys[k], by simp [asNext, Instr.extract, he], h _ _ _ hv he⟩
    · trivial
  · trivial
def aMakeIface (P : Program) (t : TypeId) (x : AV) : AR := match tinfo P t with
  | some i => match i.desc with | .iface => .bad | _ => .val (.iface t x)
  | none => .bad
theorem aMakeIface_ok {P : Program} {sn : Snap} {ρ : Env} {H : Heap} {w : World} {t : TypeId} {x : AV} {cx : Value} (hx : VR sn ρ x cx) : (aMakeIface P t x).ok P ((asNext (Instr.makeInterface t cx)).run P w) sn ρ H w := by
  unfold aMakeIface
  split
  · rename_i i ht
    obtain ⟨d, hd, hdd, hun⟩ := run_under_ti ht w
    split
    · trivial
    · rename_i hn
      refine ⟨.iface t cx, ?_, .iface _ _ _ _ hx⟩
      cases d <;> first
        | (exact absurd hdd (hn ·))
        | simp [asNext, Instr.makeInterface, hd]
  · trivial
def aNilCheck (x : AV) : AR := match x with
  | .ptr _ _ _ | .cptr _ _ | .iface _ _ => .val x
  | .func (.func _) _ _ => .val x
  | _ => .bad
def aPick (c a b : AV) : AR := match c with
  | .bool c => .val (if c = true then a else b)
  | _ => .bad
def aAssert (P : Program) (x : AV) (t : TypeId) (ok : Bool) : AR := match tinfo P t with
  | some i => match i.desc with
    | .iface => .bad
    | _ => match x, ok with
      | .iface u v, true => if u = t then .val (.tuple [v, .bool true]) else .val (.tuple [.any, .bool false])
      | .nilif, true => .val (.tuple [.any, .bool false])
      | .iface u v, false => if u = t then .val v else .bad
      | _, _ => .bad
  | none => .bad
end Go.AM
set_option linter.unusedVariables false
set_option linter.unusedSimpArgs false
namespace Go.AM
def nilCheckSem (x : Value) : Sem Next := match x with
  | .pointer none | .nilIface | .nilFunc => runtimePanic .nilDeref
  | .func (.method name) first captured =>
      match (first[0]? : Option Value) with
      | some .nilIface => runtimePanic .nilDeref
      | some (.iface t w) => do
        if (← nilAhead ((← program).types.size + Made.depth) t w name) != some false then
          unsupported (.noEntry "op/nilCheck.the method's receiver behind this interface value is a nil pointer, or cannot be seen to be none, and the arguments act or may panic (ledger 612)")
        pure (.value (.func (.method name) first captured))
      | _ => pure (.value (.func (.method name) first captured))
  | x => pure (.value x)
theorem aNilCheck_ok {P : Program} {sn : Snap} {ρ : Env} {H : Heap} {w : World} {x : AV} {cx : Value} (hx : VR sn ρ x cx) : (aNilCheck x).ok P ((nilCheckSem cx).run P w) sn ρ H w := by
  unfold aNilCheck
  split
  · have hx' := hx
    cases hx
    exact ⟨_, rfl, hx'⟩
  · have hx' := hx
    cases hx
    exact ⟨_, rfl, hx'⟩
  · have hx' := hx
    cases hx
    exact ⟨_, rfl, hx'⟩
  · have hx' := hx
    cases hx
    exact ⟨_, rfl, hx'⟩
  · trivial
theorem aPick_ok {P : Program} {sn : Snap} {ρ : Env} {H : Heap} {w : World} {c a b : AV} {cc ca cb : Value} (hc : VR sn ρ c cc) (ha : VR sn ρ a ca) (hb : VR sn ρ b cb) :
    (aPick c a b).ok P ((do pure (Next.value (if ← asBool cc then ca else cb)) : Sem Next).run P w) sn ρ H w := by
  unfold aPick
  split
  · rename_i c
    cases hc
    refine ⟨if c = true then ca else cb, by simp [asBool], ?_⟩
    split <;> assumption
  · trivial
def aFill (place : Nat → Option (Nat × Nat)) (cells : List AV) : List (Nat × AV) → Option (List AV)
  | [] => some cells
  | (k, v) :: rest => match place k, v.cells with
    | some (off, size), some cs => if cs.length = size ∧ off + size ≤ cells.length then aFill place (splice cells off cs) rest else none
    | _, _ => none
def CellsR (sn : Snap) (ρ : Env) (xs : List AV) (c : Array Value) : Prop := c.size = xs.length ∧ ∀ (k : Nat) x y, xs[k]? = some x → c[k]? = some y → VR sn ρ x y
def PartsR (sn : Snap) (ρ : Env) (xs : List (Nat × AV)) (ys : List (Nat × Value)) : Prop := ys.length = xs.length ∧ ∀ (k : Nat) x y, xs[k]? = some x → ys[k]? = some y → y.1 = x.1 ∧ VR sn ρ x.2 y.2
theorem fold_set (off : Nat) : ∀ (vs : List Value) (j : Nat) (c : Array Value), off + j + vs.length ≤ c.size →
    ((vs.zipIdx j).foldl (fun cs (x : Value × Nat) => cs.setIfInBounds (off + x.2) x.1) c).size = c.size ∧
    ∀ k, ((vs.zipIdx j).foldl (fun cs (x : Value × Nat) => cs.setIfInBounds (off + x.2) x.1) c)[k]? = if off + j ≤ k ∧ k < off + j + vs.length then vs[k - (off + j)]? else c[k]? := by
  intro vs
  induction vs with
  | nil => intro j c _; refine ⟨rfl, fun k => by simp; omega⟩
  | cons v vs ih =>
    intro j c hl
    simp only [List.length_cons] at hl
    obtain ⟨h2, h3⟩ := ih (j + 1) (c.setIfInBounds (off + j) v) (by simp; omega)
    simp only [List.zipIdx_cons, List.foldl_cons]
    refine ⟨by rw [h2]; simp, fun k => ?_⟩
    rw [h3]
    simp only [List.length_cons]
    by_cases e : k = off + j
    · subst e
      rw [if_neg (by omega), if_pos (by omega)]
      have : off + j < c.size := by omega
      simp [Array.getElem?_setIfInBounds, this]
    · by_cases e2 : off + j ≤ k ∧ k < off + j + (vs.length + 1)
      · rw [if_pos (by omega), if_pos e2]
        obtain ⟨m, hm⟩ : ∃ m, k - (off + j) = m + 1 := ⟨k - (off + j) - 1, by omega⟩
        rw [hm, List.getElem?_cons_succ]
        congr 1
        omega
      · rw [if_neg (by omega), if_neg e2]
        have : ¬ off + j = k := fun h => e h.symm
        simp [Array.getElem?_setIfInBounds, this]
theorem aFill_ok {sn : Snap} {ρ : Env} {place : Nat → Option (Nat × Nat)} : ∀ (parts : List (Nat × AV)) (cparts : List (Nat × Value)) (cells : List AV) (c : Array Value) (out : List AV), CellsR sn ρ cells c → PartsR sn ρ parts cparts →
    aFill place cells parts = some out → ∃ c', Instr.fill place c cparts = some c' ∧ CellsR sn ρ out c' := by
  intro parts
  induction parts with
  | nil =>
    intro cparts cells c out hc hp h
    have : cparts = [] := List.length_eq_zero_iff.1 hp.1
    subst this
    simp only [aFill, Option.some.injEq] at h
    subst h
    exact ⟨c, rfl, hc⟩
  | cons p rest ih =>
    intro cparts cells c out hc hp h
    obtain ⟨k, v⟩ := p
    cases cparts with
    | nil => have := hp.1; simp at this
    | cons q crest =>
      obtain ⟨k', cv⟩ := q
      obtain ⟨hk, hv⟩ := hp.2 0 _ _ rfl rfl
      simp only at hk hv
      subst hk
      simp only [aFill] at h
      split at h
      · rename_i off size cs hpl hcs
        split at h
        · rename_i hcond
          obtain ⟨hs, hcell⟩ := hv.cells_ok hcs
          have hle : off + 0 + cv.cells.toList.length ≤ c.size := by
            rw [hc.1]; simp only [Array.length_toList]; omega
          obtain ⟨f2, f3⟩ := fold_set off cv.cells.toList 0 c hle
          have hf : cv.cells.zipIdx.foldl (fun cs (x : Value × Nat) => cs.setIfInBounds (off + x.2) x.1) c = (cv.cells.toList.zipIdx 0).foldl (fun cs (x : Value × Nat) => cs.setIfInBounds (off + x.2) x.1) c := by
            rw [← Array.foldl_toList]; simp
          have hcr : CellsR sn ρ (splice cells off cs) (cv.cells.zipIdx.foldl (fun cs (x : Value × Nat) => cs.setIfInBounds (off + x.2) x.1) c) := by
            have hsl : off + cs.length ≤ cells.length := by omega
            refine ⟨by rw [hf, f2, hc.1, splice_length hsl], fun m x y hx hy => ?_⟩
            rw [hf, f3] at hy
            rw [splice_get hsl] at hx
            simp only [Nat.add_zero, Array.length_toList, hs] at hy
            split at hx
            · rename_i hin
              rw [if_pos hin] at hy
              obtain ⟨u, h1, h2⟩ := hcell _ _ hx
              rw [Array.getElem?_toList] at hy
              rw [h1] at hy
              injection hy with hy
              subst hy
              exact h2
            · rename_i hout
              rw [if_neg hout] at hy
              exact hc.2 m x y hx hy
          obtain ⟨c', g1, g2⟩ := ih crest (splice cells off cs) _ out hcr ⟨by have := hp.1; simpa using this, fun m x y hx hy => hp.2 (m + 1) x y (by simpa using hx) (by simpa using hy)⟩ h
          refine ⟨c', ?_, g2⟩
          have hneg : ¬ ((decide (cv.cells.size ≠ size) || decide (off + cv.cells.size > c.size)) = true) := by simp [hs, hc.1]; omega
          simp only [Instr.fill, hpl]
          rw [if_neg hneg]
          exact g1
        · cases h
      · cases h
def aBuildD (P : Program) (i : TI) (parts : List (Nat × AV)) : AR := match i.desc with
  | .struct fs => match aFill (fun k => (fs[k]?).bind fun f => (tinfo P f.2).map fun fi => (f.1, fi.size)) i.zero parts with
    | some cs => if (fs.all fun f => (tinfo P f.2).isSome) = true then .val (.agg cs) else .bad
    | none => .bad
  | .array _ e => match tinfo P e with
    | some ie => match aFill (fun k => some (k * ie.size, ie.size)) i.zero parts with
      | some cs => .val (.agg cs)
      | none => .bad
    | none => .bad
  | _ => .bad
def aBuild (P : Program) (t : TypeId) (parts : List (Nat × AV)) : AR := match tinfo P t with
  | some i => aBuildD P i parts
  | none => .bad
theorem run_mapM_places {P : Program} {w : World} : ∀ (fs : List Field), (fs.all fun f => (tinfo P f.type).isSome) = true →
    ((fs.mapM fun f => do pure (f.offset, ← sizeOf f.type) : Sem (List (Nat × Nat)))).run P w = .ok (fs.map fun f => (f.offset, ((tinfo P f.type).map (·.size)).getD 0)) w := by
  intro fs
  induction fs with
  | nil => intro _; rfl
  | cons f fs ih =>
    intro h
    simp only [List.all_cons, Bool.and_eq_true] at h
    obtain ⟨i, hi⟩ := Option.isSome_iff_exists.1 h.1
    rw [List.mapM_cons]
    simp only [Sem.run_bind, run_size_ti hi, ih h.2, Result.andThen_ok, Sem.run_pure, List.map_cons, hi, Option.map_some, Option.getD_some]
theorem aBuild_ok {P : Program} {sn : Snap} {ρ : Env} {H : Heap} {w : World} {t : TypeId} {parts : List (Nat × AV)} {cparts : Array (Nat × Value)} (hp : PartsR sn ρ parts cparts.toList) :
    (aBuild P t parts).ok P ((asNext (Instr.build t cparts)).run P w) sn ρ H w := by
  unfold aBuild
  split
  · rename_i i ht
    obtain ⟨d, hd, hdd, hun⟩ := run_under_ti ht w
    obtain ⟨z, hz1, hz2⟩ := run_zero_ti ht w
    have hcz : CellsR sn ρ i.zero z.cells := by
      rw [hz2]
      refine ⟨by simp, fun k x y hx hy => ?_⟩
      simp only [List.getElem?_map, Array.getElem?_toList, hy, Option.map_some, Option.some.injEq] at hx
      subst hx
      exact ofV_ok _ _ _
    unfold aBuildD
    split
    · rename_i fs hfs
      rw [hdd] at hfs
      cases d <;> simp [TD.of] at hfs
      rename_i fields
      subst hfs
      split
      · rename_i cs hfill
        split
        · rename_i hall
          obtain ⟨c', g1, g2⟩ := aFill_ok _ _ _ _ _ hcz hp hfill
          refine ⟨.agg c', ?_, .agg _ _ _ g2.1 g2.2⟩
          have hall' : (fields.toList.all fun f => (tinfo P f.type).isSome) = true := by simpa [List.all_map] using hall
          have hm := run_mapM_places (P := P) (w := w) fields.toList hall'
          have hm2 : ((fields.mapM fun f => do pure (f.offset, ← sizeOf f.type) : Sem (Array (Nat × Nat)))).run P w = .ok (fields.toList.map fun f => (f.offset, ((tinfo P f.type).map (·.size)).getD 0)).toArray w := by
            rw [Array.mapM_eq_mapM_toList]
            simp only [Sem.run_map, hm, Result.andThen_ok]
          have hplace : (fun (k : Nat) => ((fields.toList.map fun (f : Field) => (f.offset, ((tinfo P f.type).map (·.size)).getD 0)).toArray)[k]?) = (fun k => ((List.map (fun (f : Field) => (f.offset, f.type)) fields.toList)[k]?).bind fun (f : Nat × Nat) => (tinfo P f.2).map fun fi => (f.1, fi.size)) := by
            funext k
            simp only [List.getElem?_toArray, List.getElem?_map]
            cases hk : fields.toList[k]? with
            | none => rfl
            | some f =>
              have := List.all_eq_true.1 hall' f (List.mem_of_getElem? hk)
              obtain ⟨fi, hfi⟩ := Option.isSome_iff_exists.1 this
              simp [hfi]
          simp only [asNext, Instr.build, Sem.run_bind, hz1, Result.andThen_ok, hd, hm2]
          rw [hplace, g1]
          rfl
        · trivial
      · trivial
    · rename_i n e hfs
      rw [hdd] at hfs
      cases d <;> simp [TD.of] at hfs
      obtain ⟨rfl, rfl⟩ := hfs
      split
      · rename_i ie hie
        split
        · rename_i cs hfill
          obtain ⟨c', g1, g2⟩ := aFill_ok _ _ _ _ _ hcz hp hfill
          refine ⟨.agg c', ?_, .agg _ _ _ g2.1 g2.2⟩
          simp only [asNext, Instr.build, Sem.run_bind, hz1, Result.andThen_ok, hd, run_size_ti hie, g1]
          rfl
        · trivial
      · trivial
    · trivial
  · trivial
end Go.AM
set_option linter.unusedVariables false
set_option linter.unusedSimpArgs false
namespace Go.AM
def aFillRows (sz : Nat) (rows : List (List AV)) : List (Nat × AV) → Option (List (List AV))
  | [] => some rows
  | (k, v) :: rest => match v.cells with
    | some cs => if cs.length = sz ∧ k < rows.length ∧ cs.all AV.one = true then aFillRows sz (rows.set k cs) rest else none
    | none => none
theorem aFillRows_ok {sn : Snap} {ρ : Env} {sz : Nat} : ∀ (parts : List (Nat × AV)) (cparts : List (Nat × Value)) (rows : List (List AV)) (c : Array Value) (out : List (List AV)), RowsR sn ρ sz rows c → PartsR sn ρ parts cparts →
    aFillRows sz rows parts = some out → ∃ c', Instr.fill (fun k => some (k * sz, sz)) c cparts = some c' ∧ RowsR sn ρ sz out c' ∧ out.length = rows.length := by
  intro parts
  induction parts with
  | nil =>
    intro cparts rows c out hc hp h
    have : cparts = [] := List.length_eq_zero_iff.1 hp.1
    subst this
    simp only [aFillRows, Option.some.injEq] at h
    subst h
    exact ⟨c, rfl, hc, rfl⟩
  | cons p rest ih =>
    intro cparts rows c out hc hp h
    obtain ⟨k, v⟩ := p
    cases cparts with
    | nil => have := hp.1; simp at this
    | cons q crest =>
      obtain ⟨k', cv⟩ := q
      obtain ⟨hk, hv⟩ := hp.2 0 _ _ rfl rfl
      simp only at hk hv
      subst hk
      simp only [aFillRows] at h
      split at h
      · rename_i cs hcs
        split at h
        · rename_i hcond
          obtain ⟨hcl, hkl, hone⟩ := hcond
          obtain ⟨hs, hcell⟩ := hv.cells_ok hcs
          obtain ⟨c1, c2, c3⟩ := hc
          have hfit : (k' + 1) * sz ≤ rows.length * sz := Nat.mul_le_mul_right _ hkl
          rw [Nat.succ_mul] at hfit
          have hle : k' * sz + 0 + cv.cells.toList.length ≤ c.size := by
            rw [c1]; simp only [Array.length_toList]; omega
          obtain ⟨f2, f3⟩ := fold_set (k' * sz) cv.cells.toList 0 c hle
          have hf : cv.cells.zipIdx.foldl (fun cs (x : Value × Nat) => cs.setIfInBounds (k' * sz + x.2) x.1) c = (cv.cells.toList.zipIdx 0).foldl (fun cs (x : Value × Nat) => cs.setIfInBounds (k' * sz + x.2) x.1) c := by
            rw [← Array.foldl_toList]; simp
          have hcr : RowsR sn ρ sz (rows.set k' cs) (cv.cells.zipIdx.foldl (fun cs (x : Value × Nat) => cs.setIfInBounds (k' * sz + x.2) x.1) c) := by
            refine ⟨by rw [hf, f2, c1]; simp, fun i row hi => ?_, fun i row hi j x hj => ?_⟩
            · rcases getElem?_set_list hi with ⟨_, rfl⟩ | ⟨_, hi'⟩
              · exact hcl
              · exact c2 i row hi'
            · have hjs : j < sz := by
                have hjj := (List.getElem?_eq_some_iff.1 hj).1
                rcases getElem?_set_list hi with ⟨_, rfl⟩ | ⟨_, hi'⟩
                · omega
                · rw [c2 i row hi'] at hjj; exact hjj
              rw [hf, f3]
              simp only [Nat.add_zero, Array.length_toList, hs, hcl]
              rcases getElem?_set_list hi with ⟨rfl, rfl⟩ | ⟨hne, hi'⟩
              · rw [if_pos (by omega)]
                obtain ⟨u, h1, h2⟩ := hcell j x hj
                refine ⟨u, ?_, AV.one_of_all hone hj, h2⟩
                rw [Array.getElem?_toList, ← h1]
                congr 1
                omega
              · rw [if_neg]
                · exact c3 i row hi' j x hj
                · intro hin
                  have : i * sz + j = k' * sz + (i * sz + j - k' * sz) := by omega
                  exact hne (mul_inj_of hjs (by omega) this).1
          obtain ⟨c', g1, g2, g3⟩ := ih crest (rows.set k' cs) _ out hcr ⟨by have := hp.1; simpa using this, fun m x y hx hy => hp.2 (m + 1) x y (by simpa using hx) (by simpa using hy)⟩ h
          refine ⟨c', ?_, g2, by rw [g3]; simp⟩
          have hneg : ¬ ((decide (cv.cells.size ≠ sz) || decide (k' * sz + cv.cells.size > c.size)) = true) := by simp [hs, c1]; omega
          simp only [Instr.fill]
          rw [if_neg hneg]
          exact g1
        · cases h
      · cases h
theorem zeroRows {sn : Snap} {ρ : Env} {z : Value} {iz : List AV} {sz n : Nat} (hz : iz = z.cells.toList.map AV.ofV) (hl : iz.length = sz) (hone : iz.all AV.one = true) :
    RowsR sn ρ sz (List.replicate n iz) ((Array.range (n * sz)).map (z.cells[· % z.cells.size]!)) := by
  have hzs : z.cells.size = sz := by rw [← hl, hz]; simp
  refine ⟨by simp, fun i row hi => ?_, fun i row hi j x hj => ?_⟩
  · rw [List.getElem?_replicate] at hi
    split at hi
    · injection hi with hi; subst hi; exact hl
    · cases hi
  · have hin := (List.getElem?_eq_some_iff.1 hi).1
    rw [List.getElem?_replicate] at hi
    split at hi
    · injection hi with hi
      subst hi
      have hjs : j < sz := by rw [← hl]; exact (List.getElem?_eq_some_iff.1 hj).1
      simp only [List.length_replicate] at hin
      have hlt := mul_lt_of hin hjs
      have hmod : (i * sz + j) % z.cells.size = j := by rw [hzs, Nat.mul_comm, Nat.mul_add_mod]; exact Nat.mod_eq_of_lt hjs
      have hjz : j < z.cells.size := by omega
      refine ⟨z.cells[j], ?_, AV.one_of_all hone hj, ?_⟩
      · simp [hlt, hmod, hjz]
      · rw [hz] at hj
        simp only [List.getElem?_map, Array.getElem?_toList, Array.getElem?_eq_getElem hjz, Option.map_some, Option.some.injEq] at hj
        subst hj
        exact ofV_ok _ _ _
    · cases hi
def aBuildSliceE (ie : TI) (len : Nat) (rows : Option (List (List AV))) : AR := match rows with
  | some rows => .chk (ie.zero.length = ie.size ∧ ie.zero.all AV.one = true ∧ len * ie.size ≤ 16777216 ∧ len ≤ 16777216) (.alloc (.rows ie.size rows) (fun n => .sl n 0 len (some len)))
  | none => .bad
def aBuildSlice (P : Program) (t : TypeId) (len : Nat) (parts : List (Nat × AV)) : AR := match tinfo P t with
  | some i => match i.desc with
    | .slice e => match tinfo P e with
      | some ie => aBuildSliceE ie len (aFillRows ie.size (List.replicate len ie.zero) parts)
      | none => .bad
    | _ => .bad
  | none => .bad
theorem newRow_ok {P : Program} {sn : Snap} {ρ : Env} {H : Heap} {w : World} (hR : Rel sn ρ H w) {e : TypeId} {rows : List (List AV)} {c : Array Value} {sz len : Nat} (hr : RowsR sn ρ sz rows c) (hl : rows.length = len) (hm : len ≤ maxLen) (cap : Option Nat) (hcap : ∀ k, cap = some k → len = k) {s : Sem Value}
    (hs : s.run P w = (do pure (.slice (some (← newRow e c)) len len) : Sem Value).run P w) :
    (AR.alloc (.rows sz rows) (fun n => .sl n 0 len cap)).ok P ((asNext s).run P w) sn ρ H w := by
  have hmono := envPut_mono (p := ⟨w.heap.size, sz, c.size⟩) (hR.top _ (Nat.le_refl _))
  obtain ⟨r1, r2, r3⟩ := hr.mono (fun _ _ h => h) hmono
  refine ⟨.cells c e, .slice (some ⟨w.heap.size, 0, none⟩) len len, { w with heap := w.heap.push (.cells c e) }, sz, c.size, ?_, rfl, rfl, rfl, rfl, trivial, ⟨rfl, rfl, by rw [r1]; exact Nat.le_refl _, r2, r3, fun o ho => by simp⟩, ?_⟩
  · simp only [asNext, Sem.run_bind, hs]
    simp [newRow]
  · exact VR.sl _ _ _ _ len cap _ ⟨w.heap.size, sz, c.size⟩ (envPut_same _ _ _) (fun _ => by simp) (Nat.le_refl _) hm (by simp [r1, hl]) hcap
theorem aBuildSlice_ok {P : Program} {sn : Snap} {ρ : Env} {H : Heap} {w : World} (hR : Rel sn ρ H w) {t : TypeId} {len : Nat} {parts : List (Nat × AV)} {cparts : Array (Nat × Value)} (hp : PartsR sn ρ parts cparts.toList) :
    (aBuildSlice P t len parts).ok P ((asNext (Instr.buildSlice t len cparts)).run P w) sn ρ H w := by
  unfold aBuildSlice
  split
  · rename_i i ht
    obtain ⟨d, hd, hdd, hun⟩ := run_under_ti ht w
    split
    · rename_i e he
      rw [hdd] at he
      cases d <;> simp [TD.of] at he
      subst he
      rename_i e
      split
      · rename_i ie hie
        unfold aBuildSliceE
        split
        · rename_i rows hrows
          rintro ⟨hzl, hone, hlim, hlim2⟩
          obtain ⟨z, hz1, hz2⟩ := run_zero_ti hie w
          have hzr := zeroRows (sn := sn) (ρ := ρ) (n := len) hz2 hzl hone
          obtain ⟨c', g1, g2, g3⟩ := aFillRows_ok _ _ _ _ _ hzr hp hrows
          simp only [List.length_replicate] at g3
          have hsz : rows.length ≤ maxLen := by
            rw [g3]; simp only [maxLen]; omega
          refine newRow_ok hR g2 g3 (by rw [← g3]; exact hsz) (some len) (fun k hk => by injection hk) (e := e) ?_
          have hlim' : ¬ (len * ie.size > 2 ^ 24) := by omega
          by_cases h0 : len * ie.size = 0
          · have hr0 : Array.range 0 = #[] := rfl
            have h1' : (Array.map (fun (x : Nat) => z.cells[x % z.cells.size]!) #[]) = #[] := by simp
            have h0' : (Array.map (fun (x : Nat) => (#[] : Array Value)[x % (#[] : Array Value).size]!) #[]) = #[] := by simp
            rw [h0, hr0, h1'] at g1
            have hn0 : ¬ (0 > 2 ^ 24) := by omega
            simp only [Instr.buildSlice, Sem.run_bind, hd, Result.andThen_ok, run_size_ti hie, h0, hn0, if_false, if_true, Sem.run_pure, hr0, h0', g1]
          · simp only [Instr.buildSlice, Sem.run_bind, hd, Result.andThen_ok, run_size_ti hie, hlim', if_false, h0, Sem.run_pure, hz1, g1]
        · trivial
      · trivial
    · trivial
  · trivial
def aMakeSliceE (ie : TI) (n : Int) : AR :=
  .chk (0 ≤ n ∧ n ≤ 1099511627776 ∧ ie.bytes * n ≤ 281474976710656 ∧ ie.zero.length = ie.size ∧ ie.zero.all AV.one = true) (.alloc (.rows ie.size (List.replicate n.toNat ie.zero)) (fun r => .sl r 0 n.toNat (some n.toNat)))
def aMakeSlice (P : Program) (t : TypeId) (l c : AV) : AR := match tinfo P t with
  | some i => match i.desc with
    | .slice e => match tinfo P e, l, c with
      | some ie, .int .i64 n, .int .i64 m => .chk (m = n) (aMakeSliceE ie n)
      | _, _, _ => .bad
    | _ => .bad
  | none => .bad
theorem aMakeSlice_ok {P : Program} {sn : Snap} {ρ : Env} {H : Heap} {w : World} (hR : Rel sn ρ H w) {t : TypeId} {l c : AV} {cl cc : Value} (hl : VR sn ρ l cl) (hc : VR sn ρ c cc) :
    (aMakeSlice P t l c).ok P ((asNext (Instr.makeSlice t cl cc)).run P w) sn ρ H w := by
  unfold aMakeSlice
  split
  · rename_i i ht
    obtain ⟨d, hd, hdd, hun⟩ := run_under_ti ht w
    split
    · rename_i e he
      rw [hdd] at he
      cases d <;> simp [TD.of] at he
      subst he
      rename_i e
      split
      · rename_i ie n m hie
        cases hl
        cases hc
        intro hmn
        subst hmn
        unfold aMakeSliceE
        rintro ⟨h0, h1, h2, hzl, hone⟩
        obtain ⟨inf, dd, z, q1, q2, q3, q4, q5, q6, q7⟩ := tinfo_ok hie
        have hz1 : (zeroValue e).run P w = .ok z w := by simp [zeroValue, run_info q1, q3]
        have hzr := zeroRows (sn := sn) (ρ := ρ) (n := m.toNat) q6 hzl hone
        refine newRow_ok hR hzr (by simp) (by simp only [maxLen]; omega) (some m.toNat) (fun k hk => by injection hk) (e := e) ?_
        have hw : IntKind.i64.wrap m = m := by
          simp [IntKind.wrap, IntKind.signed, IntKind.bits]
          omega
        have c1 : ¬ m < 0 := by omega
        have c2 : ¬ (281474976710656 < (inf.bytes : Int) * m) := by rw [q5]; omega
        by_cases hz : m.toNat * ie.size = 0
        · simp [Instr.makeSlice, hd, asInt, asIntOf, run_info q1, hw, c1, c2, run_size_ti hie, hz, newRow]
          have hr0 : Array.range 0 = #[] := rfl
          simp [hr0]
        · simp [Instr.makeSlice, hd, asInt, asIntOf, run_info q1, hw, c1, c2, run_size_ti hie, hz, hz1, newRow]
      · trivial
    · trivial
  · trivial
def aConvD (d : TD) (s : TD) (x : AV) : AR := match d, s, x with
  | .int k, .int _, .int _ n => .val (.int k (iw k n))
  | .str, .str, .str s => .val (.str s)
  | _, _, _ => .bad
def aConvNum (P : Program) (src dst : TypeId) (x : AV) : AR := match tinfo P src, tinfo P dst with
  | some i, some j => aConvD j.desc i.desc x
  | _, _ => .bad
theorem aConvNum_ok {P : Program} {sn : Snap} {ρ : Env} {H : Heap} {w : World} {src dst : TypeId} {x : AV} {cx : Value} (hx : VR sn ρ x cx) : (aConvNum P src dst x).ok P ((asNext (convert src dst cx)).run P w) sn ρ H w := by
  unfold aConvNum
  split
  · rename_i i j hi hj
    obtain ⟨d, hd, hdd, _⟩ := run_under_ti hi w
    obtain ⟨d2, hd2, hdd2, _⟩ := run_under_ti hj w
    unfold aConvD
    split
    · rename_i k k' k2 n e1 e2
      cases hx
      rw [hdd2] at e1
      rw [hdd] at e2
      cases d2 <;> simp [TD.of] at e1
      cases d <;> simp [TD.of] at e2
      subst e1
      exact ⟨.int _ _, by simp [asNext, convert, hd, hd2, Conv.intToInt, iw], .int _ _ _⟩
    · rename_i s e1 e2
      cases hx
      rw [hdd2] at e1
      rw [hdd] at e2
      cases d2 <;> simp [TD.of] at e1
      cases d <;> simp [TD.of] at e2
      exact ⟨.string _, by simp [asNext, convert, hd, hd2], .str _ _⟩
    · trivial
  · trivial
theorem aAssert_ok {P : Program} {sn : Snap} {ρ : Env} {H : Heap} {w : World} {xt t : TypeId} {x : AV} {cx : Value} (hx : VR sn ρ x cx) (ok : Bool) : (aAssert P x t ok).ok P ((asNext (Instr.typeAssert cx xt t ok)).run P w) sn ρ H w := by
  unfold aAssert
  split
  · rename_i i ht
    obtain ⟨d, hd, hdd, hun⟩ := run_under_ti ht w
    obtain ⟨inf, dd, z, q1, q2, q3, q4, q5, q6, q7⟩ := tinfo_ok ht
    have hz : (zeroValue t).run P w = .ok z w := by simp [zeroValue, run_info q1, q3]
    have hval : VR sn ρ (if i.desc.isAgg = true then .agg i.zero else i.zero.headD .any) z ∨ True := .inr trivial
    split
    · trivial
    · rename_i hnif
      have hni : ∀ ms, d ≠ .interface ms := fun ms h => by subst h; exact hnif (by rw [hdd]; rfl)
      have hrun : ∀ u v, (Instr.typeAssert (.iface u v) xt t true).run P w = if u = t then .ok (.tuple #[v, .bool true]) w else .ok (.tuple #[z, .bool false]) w := fun u v => by
        cases d <;> first
          | exact absurd rfl (hni _)
          | (by_cases e : u = t <;> simp [Instr.typeAssert, hd, hz, e])
      split
      · rename_i u v
        cases hx
        rename_i cv hcv
        split
        · rename_i e
          refine ⟨.tuple #[cv, .bool true], by simp only [asNext, Sem.run_bind, hrun, if_pos e]; rfl, .tuple _ _ _ rfl ?_⟩
          intro k a b ha hb
          match k with
          | 0 => simp at ha hb; subst ha hb; exact hcv
          | 1 => simp at ha hb; subst ha hb; exact .bool _ _
          | k + 2 => simp at ha
        · rename_i e
          refine ⟨.tuple #[z, .bool false], by simp only [asNext, Sem.run_bind, hrun, if_neg e]; rfl, .tuple _ _ _ rfl ?_⟩
          intro k a b ha hb
          match k with
          | 0 => simp at ha hb; subst ha hb; exact .any _ _
          | 1 => simp at ha hb; subst ha hb; exact .bool _ _
          | k + 2 => simp at ha
      · cases hx
        have hrun2 : (Instr.typeAssert .nilIface xt t true).run P w = .ok (.tuple #[z, .bool false]) w := by
          cases d <;> first
            | exact absurd rfl (hni _)
            | simp [Instr.typeAssert, hd, hz]
        refine ⟨.tuple #[z, .bool false], by simp only [asNext, Sem.run_bind, hrun2]; rfl, .tuple _ _ _ rfl ?_⟩
        intro k a b ha hb
        match k with
        | 0 => simp at ha hb; subst ha hb; exact .any _ _
        | 1 => simp at ha hb; subst ha hb; exact .bool _ _
        | k + 2 => simp at ha
      · rename_i u v
        cases hx
        rename_i cv hcv
        split
        · rename_i e
          have hrun3 : (Instr.typeAssert (.iface u cv) xt t false).run P w = .ok cv w := by
            cases d <;> first
              | exact absurd rfl (hni _)
              | simp [Instr.typeAssert, hd, e]
          exact ⟨cv, by simp only [asNext, Sem.run_bind, hrun3]; rfl, hcv⟩
        · trivial
      · trivial
  · trivial
def aIndexV (P : Program) (t : TypeId) (x k : AV) : AR := match tinfo P t, k with
  | some i, .int _ n => match i.desc, x with
    | .array len e, .agg cs => match tinfo P e with
      | some ie => .chk (0 ≤ n ∧ n < (len : Int)) (if ie.desc.isAgg then .val (.agg ((cs.drop (n.toNat * ie.size)).take ie.size)) else match cs[n.toNat * ie.size]? with | some v => .val v | none => .bad)
      | none => .bad
    | .str, .str s => .chk (0 ≤ n ∧ n < (s.size : Int)) (.val (.int .u8 (((s.data.toList[n.toNat]?).getD 0).toNat : Int)))
    | _, _ => .bad
  | _, _ => .bad
theorem aIndexV_ok {P : Program} {sn : Snap} {ρ : Env} {H : Heap} {w : World} {t : TypeId} {x k : AV} {cx ck : Value} (hx : VR sn ρ x cx) (hk : VR sn ρ k ck) : (aIndexV P t x k).ok P ((asNext (Instr.index t cx ck)).run P w) sn ρ H w := by
  unfold aIndexV
  split
  · rename_i i kk n ht
    cases hk
    obtain ⟨d, hd, hdd, hun⟩ := run_under_ti ht w
    split
    · rename_i len e cs he
      rw [hdd] at he
      cases d <;> simp [TD.of] at he
      obtain ⟨rfl, rfl⟩ := he
      cases hx
      rename_i ys hs h
      split
      · rename_i ie hie
        rintro ⟨h0, h1⟩
        split
        · rename_i hag
          refine ⟨.agg (ys.extract (n.toNat * ie.size) (n.toNat * ie.size + ie.size)), by simp [asNext, Instr.index, asIntOf, hd, h0, h1, part, run_agg_ti hie, hag, run_size_ti hie], .agg _ _ _ (by simp [hs]; omega) ?_⟩
          intro m a b hm hb
          have hm2 : m < ie.size ∧ cs[n.toNat * ie.size + m]? = some a := by
            rw [List.getElem?_take] at hm
            split at hm
            · rename_i hlt; exact ⟨hlt, by simpa using hm⟩
            · cases hm
          have hb2 : ys[n.toNat * ie.size + m]? = some b := by
            rw [Array.getElem?_extract] at hb
            split at hb
            · exact hb
            · cases hb
          exact h _ _ _ hm2.2 hb2
        · rename_i hag
          split
          · rename_i v hv
            have hlt : n.toNat * ie.size < ys.size := by rw [hs]; exact (List.getElem?_eq_some_iff.1 hv).1
            exact ⟨ys[n.toNat * ie.size], by simp [asNext, Instr.index, asIntOf, hd, h0, h1, part, run_agg_ti hie, hag, run_size_ti hie, hlt], h _ _ _ hv (Array.getElem?_eq_getElem hlt)⟩
          · trivial
      · trivial
    · rename_i s he
      rw [hdd] at he
      cases d <;> simp [TD.of] at he
      cases hx
      rintro ⟨h0, h1⟩
      have hlt : n.toNat < s.size := by omega
      have hlt' : n.toNat < s.data.toList.length := by rw [Array.length_toList]; exact hlt
      refine ⟨.int .u8 ((s[n.toNat]'hlt).toNat : Int), by simp [asNext, Instr.index, asIntOf, hd, h0, hlt], ?_⟩
      have : (s.data.toList[n.toNat]?).getD 0 = s[n.toNat]'hlt := by rw [List.getElem?_eq_getElem hlt']; rfl
      rw [this]
      exact .int _ _ _
    · trivial
  · trivial
end Go.AM
set_option linter.unusedVariables false
set_option linter.unusedSimpArgs false
namespace Go.AM
def AV.ofZ : Value → AV
  | .agg cs => .agg (cs.toList.map AV.ofV)
  | v => .ofV v
def tzero (P : Program) (t : TypeId) : Option AV := (P.info? t).bind fun i => i.zero.map AV.ofZ
theorem ofZ_ok (sn : Snap) (ρ : Env) (v : Value) : VR sn ρ (AV.ofZ v) v := by
  unfold AV.ofZ
  split
  · rename_i cs
    refine .agg _ _ _ (by simp) fun k x y hx hy => ?_
    simp only [List.getElem?_map, Option.map_eq_some_iff] at hx
    obtain ⟨u, hu, rfl⟩ := hx
    have : cs[k]? = some u := by simpa using hu
    rw [hy] at this
    cases this
    exact ofV_ok _ _ _
  · exact ofV_ok _ _ _
theorem run_tzero {P : Program} {t : TypeId} {z : AV} (h : tzero P t = some z) (sn : Snap) (ρ : Env) (w : World) : ∃ v, (zeroValue t).run P w = .ok v w ∧ VR sn ρ z v := by
  unfold tzero at h
  simp only [Option.bind_eq_some_iff, Option.map_eq_some_iff] at h
  obtain ⟨i, hi, v, hv, rfl⟩ := h
  exact ⟨v, by simp [zeroValue, run_info hi, hv], ofZ_ok _ _ _⟩
def keyAV (d : TD) (k : AV) : Bool := match d, k with
  | .int _, .int _ _ => true
  | .bool, .bool _ => true
  | .str, .str _ => true
  | _, _ => false
def keyEq (k e : AV) : Option Bool := match k, e with
  | .int k a, .int k' b => if k = k' then some (decide (a = b)) else none
  | .bool a, .bool b => some (decide (a = b))
  | .str a, .str b => some (decide (a = b))
  | _, _ => none
def mfind (k : AV) : List (AV × AV) → Nat → Option (Option (Nat × AV))
  | [], _ => some none
  | e :: es, i => match keyEq k e.1 with
    | some true => some (some (i, e.2))
    | some false => mfind k es (i + 1)
    | none => none
theorem bytes_beq' (a b : ByteArray) : (a == b) = decide (a = b) := by
  rw [Bool.eq_iff_iff, decide_eq_true_iff]
  obtain ⟨x⟩ := a
  obtain ⟨y⟩ := b
  constructor
  · intro h
    have : x = y := by simpa using (show (x == y) = true from h)
    rw [this]
  · rintro h
    cases h
    exact beq_self_eq_true x
theorem sameNow_ok {sn : Snap} {ρ ρ' : Env} {d : TypeDesc} {k e : AV} {ck ce : Value} (hk : VR sn ρ k ck) (he : VR sn ρ' e ce) (hd : keyAV (TD.of d) k = true) {b : Bool} (h : keyEq k e = some b) : Instr.sameNow d ck ce = some b := by
  unfold keyEq at h
  split at h
  · cases hk; cases he
    split at h
    · cases h
      cases d <;> simp [keyAV, TD.of] at hd
      subst_vars
      simp [Instr.sameNow]
      rfl
    · cases h
  · cases hk; cases he
    cases h
    cases d <;> simp [keyAV, TD.of] at hd
    simp [Instr.sameNow]
    rename_i a b
    cases a <;> cases b <;> rfl
  · cases hk; cases he
    cases h
    cases d <;> simp [keyAV, TD.of] at hd
    rename_i a b
    simp [Instr.sameNow, bytes_beq']
  · cases h
def EntR (sn : Snap) (ρ : Env) (es : List (AV × AV)) (ms : List MapEntry) : Prop :=
  ms.length = es.length ∧ ∀ (k : Nat) (x : AV × AV) (m : MapEntry), es[k]? = some x → ms[k]? = some m → VR sn noEnv x.1 m.key ∧ VR sn ρ x.2 m.val
theorem EntR.tail {sn : Snap} {ρ : Env} {e : AV × AV} {es : List (AV × AV)} {m : MapEntry} {ms : List MapEntry} (h : EntR sn ρ (e :: es) (m :: ms)) : EntR sn ρ es ms :=
  ⟨by simpa using h.1, fun k x y hx hy => h.2 (k + 1) x y (by simpa using hx) (by simpa using hy)⟩
theorem findNow_ok {sn : Snap} {ρ ρ' : Env} {d : TypeDesc} {k : AV} {ck : Value} (hk : VR sn ρ' k ck) (hd : keyAV (TD.of d) k = true) : ∀ (es : List (AV × AV)) (ms : List MapEntry) (i : Nat) (r : Option (Nat × AV)), EntR sn ρ es ms → mfind k es i = some r →
    match r with
    | none => Instr.findNow d ck ms i = some none
    | some (j, v) => i ≤ j ∧ j < i + es.length ∧ ∃ cv, Instr.findNow d ck ms i = some (some (j, cv)) ∧ VR sn ρ v cv ∧ ∃ m e, ms[j - i]? = some m ∧ es[j - i]? = some e ∧ keyEq k e.1 = some true := by
  intro es
  induction es with
  | nil =>
    intro ms i r h hr
    have : ms = [] := by have := h.1; simpa using this
    subst this
    cases hr
    rfl
  | cons e es ih =>
    intro ms i r h hr
    cases ms with
    | nil => have := h.1; simp at this
    | cons m ms =>
      obtain ⟨h1, h2⟩ := h.2 0 e m rfl rfl
      simp only [mfind] at hr
      split at hr
      · rename_i he
        cases hr
        have := sameNow_ok hk h1 hd he
        exact ⟨Nat.le_refl _, by simp, m.val, by simp [Instr.findNow, this], h2, m, e, by simp, by simp, he⟩
      · rename_i he
        have hs := sameNow_ok hk h1 hd he
        have := ih ms (i + 1) r h.tail hr
        cases r with
        | none => simpa [Instr.findNow, hs] using this
        | some jv =>
          obtain ⟨j, v⟩ := jv
          obtain ⟨g1, g2, cv, g3, g4, m', e', g5, g6, g7⟩ := this
          refine ⟨by omega, by simp only [List.length_cons]; omega, cv, by simpa [Instr.findNow, hs] using g3, g4, m', e', ?_, ?_, g7⟩
          · rw [show j - i = (j - (i + 1)) + 1 by omega]; simpa using g5
          · rw [show j - i = (j - (i + 1)) + 1 by omega]; simpa using g6
      · cases hr
def mEnts (x : AV) (H : Heap) : Option (List (AV × AV)) := match x with
  | .nilmap => some []
  | .map r => match H[r]? with
    | some (.amap es) => some es
    | _ => none
  | _ => none
def lookRes (ok : Bool) (z : AV) : Option (Nat × AV) → AV
  | some (_, v) => if ok = true then .tuple [v, .bool true] else v
  | none => if ok = true then .tuple [z, .bool false] else z
def aLookupE (d : TD) (z k : AV) (ok : Bool) : Option (List (AV × AV)) → AR
  | some es => if keyAV d k = true then match mfind k es 0 with
    | some r => .val (lookRes ok z r)
    | none => .bad
    else .bad
  | none => .bad
def aLookup (P : Program) (t : TypeId) (x k : AV) (ok : Bool) (H : Heap) : AR := match tinfo P t with
  | some i => match i.desc with
    | .map kt et => match tinfo P kt, tzero P et with
      | some ki, some z => aLookupE ki.desc z k ok (mEnts x H)
      | _, _ => .bad
    | _ => .bad
  | none => .bad
def aMapUpdB (r : Nat) (k v : AV) (H : Heap) (es : List (AV × AV)) : Option (Option (Nat × AV)) → AR
  | some (some (i, _)) => .upd (H.set r (.amap (es.set i (k, v)))) .any
  | some none => .upd (H.set r (.amap (es ++ [(k, v)]))) .any
  | none => .bad
def aMapUpdE (d : TD) (r : Nat) (k v : AV) (H : Heap) : Option Blk → AR
  | some (.amap es) => if keyAV d k = true then aMapUpdB r k v H es (mfind k es 0) else .bad
  | _ => .bad
def aMapUpd (P : Program) (t : TypeId) (x k v : AV) (H : Heap) : AR := match tinfo P t with
  | some i => match i.desc with
    | .map kt et => match tinfo P kt, x with
      | some ki, .map r => aMapUpdE ki.desc r k v H H[r]?
      | _, _ => .bad
    | _ => .bad
  | none => .bad
def aMakeMap (res : Option AV) : AR := match res with
  | none => .alloc (.amap []) (fun n => .map n)
  | some _ => .bad
theorem aMakeMap_ok {P : Program} {sn : Snap} {ρ : Env} {H : Heap} {w : World} {t : TypeId} {x : Option AV} {cx : Option Value} (h : x.isNone = cx.isNone) : (aMakeMap x).ok P ((asNext (Instr.makeMap t cx)).run P w) sn ρ H w := by
  cases x with
  | some x => trivial
  | none =>
    cases cx with
    | some x => simp at h
    | none =>
      refine ⟨.map #[] 0, .map (some w.heap.size), { w with heap := w.heap.push (.map #[] 0) }, 0, 0, ?_, rfl, rfl, rfl, rfl, trivial, ⟨rfl, by simp⟩, ?_⟩
      · simp [asNext, Instr.makeMap]
      · exact .map _ _ ⟨w.heap.size, 0, 0⟩ (envPut_same _ _ _)
theorem key_noenv {sn : Snap} {ρ : Env} {d : TD} {k : AV} {ck : Value} (hk : VR sn ρ k ck) (hd : keyAV d k = true) : VR sn noEnv k ck := by
  unfold keyAV at hd
  split at hd
  · cases hk; exact .int _ _ _
  · cases hk; exact .bool _ _
  · cases hk; exact .str _ _
  · cases hd
theorem key_check {sn : Snap} {ρ : Env} {d : TypeDesc} {k : AV} {ck : Value} (hk : VR sn ρ k ck) (hd : keyAV (TD.of d) k = true) (e : Bool) (n : Nat) {P : Program} {kt : TypeId} (w : World) (h : P.underlying kt = some d) : (Instr.checkKey e (n + 1) kt ck).run P w = .ok () w := by
  unfold Instr.checkKey
  simp only [Sem.run_bind, run_underlying h, Result.andThen]
  unfold keyAV at hd
  split at hd
  · cases hk
    cases d <;> simp [TD.of] at * <;> rfl
  · cases hk
    cases d <;> simp [TD.of] at * <;> rfl
  · cases hk
    cases d <;> simp [TD.of] at * <;> rfl
  · cases hd
theorem key_same {sn : Snap} {ρ ρ' : Env} {k e : AV} {ck ce : Value} (hk : VR sn ρ k ck) (he : VR sn ρ' e ce) (h : keyEq k e = some true) : ce = ck ∧ Instr.sameBits 10000 ck ck = true := by
  unfold keyEq at h
  split at h
  · cases hk; cases he
    split at h
    · rename_i hkk
      simp at h
      subst h hkk
      exact ⟨rfl, by simp [Instr.sameBits]⟩
    · cases h
  · cases hk; cases he
    simp at h
    subst h
    exact ⟨rfl, by simp [Instr.sameBits]⟩
  · cases hk; cases he
    simp at h
    subst h
    exact ⟨rfl, by simp [Instr.sameBits, bytes_beq']⟩
  · cases h
theorem Rel.amap {sn : Snap} {ρ : Env} {H : Heap} {w : World} (h : Rel sn ρ H w) {r : Nat} {es : List (AV × AV)} {p : Place} (hr : H[r]? = some (.amap es)) (hp : ρ r = some p) : ∃ ms clock, w.heap[p.b]? = some (.map ms clock) ∧ EntR sn ρ es ms.toList := by
  obtain ⟨_, obj, h1, h2⟩ := h.own r _ p hr trivial hp
  cases obj <;> simp only [BlkR] at h2
  exact ⟨_, _, h1, by simpa using h2.1, fun k x m hx hm => h2.2 k x m hx (by simpa using hm)⟩
theorem getO {P : Program} {w : World} {r : Nat} {es : Array MapEntry} {clock : Nat} (hb : w.heap[r]? = some (.map es clock)) : (getObj r).run P w = .ok (.map es clock) w := by
  simp [getObj, Sem.run, hb]
theorem setO {P : Program} {w : World} {r : Nat} {es : Array MapEntry} {clock : Nat} (o : Obj) (hb : w.heap[r]? = some (.map es clock)) : (setObj r o).run P w = .ok () { w with heap := w.heap.setIfInBounds r o } := by
  simp [setObj, Sem.run, hb]
theorem findK {P : Program} {w : World} {kt : TypeId} {d : TypeDesc} {k : Value} {l : List MapEntry} {a : Option (Nat × Value)} (hd : P.underlying kt = some d) (h : Instr.findNow d k l 0 = some a) : (Instr.findKey kt k l).run P w = .ok a w := by
  simp [Instr.findKey, run_underlying hd, Result.andThen, h]
theorem run_lookup {P : Program} {w : World} {t kt et : TypeId} {cx ck zv : Value} {es : Array MapEntry} {r : Option (Nat × Value)} (ok : Bool) (hcx : (cx = .map none ∧ es = #[]) ∨ ∃ b clock, cx = .map (some b) ∧ w.heap[b]? = some (.map es clock))
    (hd : P.underlying t = some (.map kt et)) (hck : ∀ e n, (Instr.checkKey e (n + 1) kt ck).run P w = .ok () w) (hf : (Instr.findKey kt ck es.toList).run P w = .ok r w) (hz : (zeroValue et).run P w = .ok zv w) :
    (Instr.lookup t cx ck ok).run P w = .ok (match r with | some (_, v) => if ok then .tuple #[v, .bool true] else v | none => if ok then .tuple #[zv, .bool false] else zv) w := by
  rcases hcx with ⟨rfl, rfl⟩ | ⟨b, clock, rfl, hb⟩
  · cases r <;> simp [Instr.lookup, run_underlying hd, Result.andThen, hck _ 9999, hf, hz]
  · cases r <;> simp [Instr.lookup, run_underlying hd, Result.andThen, hck _ 9999, hf, hz, getO hb]
theorem aLookup_ok {P : Program} {sn : Snap} {ρ : Env} {H : Heap} {w : World} (hR : Rel sn ρ H w) {t : TypeId} {x k : AV} {cx ck : Value} (hx : VR sn ρ x cx) (hk : VR sn ρ k ck) (ok : Bool) :
    (aLookup P t x k ok H).ok P ((asNext (Instr.lookup t cx ck ok)).run P w) sn ρ H w := by
  unfold aLookup
  split
  · rename_i i hi
    split
    · rename_i kt et hd
      split
      · rename_i ki z hki hz
        obtain ⟨d, hd1, hd2, hd3⟩ := run_under_ti hi w
        obtain ⟨dk, hk1, hk2, hk3⟩ := run_under_ti hki w
        obtain ⟨zv, hz1, hz2⟩ := run_tzero hz sn ρ w
        rw [hd] at hd2
        have hdm : d = .map kt et := by cases d <;> simp [TD.of] at hd2; rw [hd2.1, hd2.2]
        subst hdm
        unfold aLookupE
        split
        · rename_i es hes
          split
          · rename_i hkk
            split
            · rename_i r hr
              rw [hk2] at hkk
              have hents : ∃ ms : Array MapEntry, EntR sn ρ es ms.toList ∧ ((cx = .map none ∧ ms = #[]) ∨ ∃ b clock, cx = .map (some b) ∧ w.heap[b]? = some (.map ms clock)) := by
                unfold mEnts at hes
                split at hes
                · cases hx; cases hes
                  exact ⟨#[], ⟨rfl, by simp⟩, .inl ⟨rfl, rfl⟩⟩
                · rename_i rr
                  split at hes
                  · rename_i es' he
                    cases hes
                    cases hx
                    rename_i p hp
                    obtain ⟨ms, clock, g1, g2⟩ := hR.amap he hp
                    exact ⟨ms, g2, .inr ⟨_, _, rfl, g1⟩⟩
                  · cases hes
                · cases hes
              obtain ⟨ms, hms, hcx⟩ := hents
              have hf := findNow_ok hk hkk es ms.toList 0 r hms hr
              have two : ∀ (v : AV) (cv : Value) (b : Bool), VR sn ρ v cv → VR sn ρ (if ok = true then .tuple [v, .bool b] else v) (if ok = true then .tuple #[cv, .bool b] else cv) := by
                intro v cv b hv
                split
                · refine .tuple _ _ _ rfl fun n a c ha hc => ?_
                  match n with
                  | 0 => simp at ha hc; subst ha hc; exact hv
                  | 1 => simp at ha hc; subst ha hc; exact .bool _ _
                  | n + 2 => simp at ha
                · exact hv
              cases r with
              | none =>
                refine ⟨_, ?_, two _ zv _ hz2⟩
                have := run_lookup ok hcx hd3 (fun e n => key_check hk hkk e n w hk3) (findK hk3 hf) hz1
                simp only [asNext, Sem.run_bind, this]
                rfl
              | some jv =>
                obtain ⟨j, v⟩ := jv
                obtain ⟨_, _, cv, g1, g2, _⟩ := hf
                refine ⟨_, ?_, two _ cv _ g2⟩
                have := run_lookup ok hcx hd3 (fun e n => key_check hk hkk e n w hk3) (findK hk3 g1) hz1
                simp only [asNext, Sem.run_bind, this]
                rfl
            · trivial
          · trivial
        · trivial
      · trivial
    · trivial
  · trivial
theorem aMapUpd_ok {P : Program} {sn : Snap} {ρ : Env} {H : Heap} {w : World} (hR : Rel sn ρ H w) {t : TypeId} {x k v : AV} {cx ck cv : Value} (hx : VR sn ρ x cx) (hk : VR sn ρ k ck) (hv : VR sn ρ v cv) :
    (aMapUpd P t x k v H).ok P ((asSkip (Instr.mapUpdate t cx ck cv)).run P w) sn ρ H w := by
  unfold aMapUpd
  split
  · rename_i i hi
    split
    · rename_i kt et hd
      split
      · rename_i ki r hki
        obtain ⟨d, hd1, hd2, hd3⟩ := run_under_ti hi w
        obtain ⟨dk, hk1, hk2, hk3⟩ := run_under_ti hki w
        rw [hd] at hd2
        have hdm : d = .map kt et := by cases d <;> simp [TD.of] at hd2; rw [hd2.1, hd2.2]
        subst hdm
        unfold aMapUpdE
        split
        · rename_i es hes
          split
          · rename_i hkk
            rw [hk2] at hkk
            cases hx
            rename_i p hp
            obtain ⟨ms, clock, g1, g2⟩ := hR.amap hes hp
            have hck := fun e n => key_check hk hkk e n w hk3
            unfold aMapUpdB
            split
            · rename_i i' v' hr
              have hf := findNow_ok hk hkk es ms.toList 0 _ g2 hr
              obtain ⟨_, hlt, cv', f1, f2, m, e, f3, f4, f5⟩ := hf
              simp only [Nat.sub_zero, Nat.zero_add] at f3 f4 hlt
              have f3' : ms[i']? = some m := by simpa using f3
              obtain ⟨g3, _⟩ := g2.2 i' e m f4 f3
              obtain ⟨hsame, hbits⟩ := key_same hk g3 f5
              have hkt : (Instr.keyThatStays (((ms[i']?).map (·.key)).getD ck) ck).run P w = .ok ck w := by
                simp [Instr.keyThatStays, f3', hsame, hbits]
              obtain ⟨r1, r2⟩ := hR.update (blk' := .amap (es.set i' (k, v))) (obj := .map (ms.modify i' fun e => { e with key := ck, val := cv }) clock) hes trivial hp (by
                refine ⟨by simpa using g2.1, fun n y mm hy hmm => ?_⟩
                rw [Array.getElem?_modify] at hmm
                by_cases hn : i' = n
                · subst hn
                  rw [List.getElem?_set_self hlt] at hy
                  cases hy
                  rw [if_pos rfl, f3'] at hmm
                  cases hmm
                  exact ⟨key_noenv hk hkk, hv⟩
                · rw [List.getElem?_set_ne hn] at hy
                  rw [if_neg hn] at hmm
                  exact g2.2 n y mm hy (by simpa using hmm))
              refine ⟨undef, _, _, _, .inr ⟨?_, rfl⟩, .any _ _, r1, r2⟩
              simp [asSkip, Instr.mapUpdate, run_underlying hd3, Result.andThen, getO g1, hck _ 9999, findK hk3 f1, hkt, setO _ g1]
            · rename_i hr
              have hf := findNow_ok hk hkk es ms.toList 0 _ g2 hr
              obtain ⟨r1, r2⟩ := hR.update (blk' := .amap (es ++ [(k, v)])) (obj := .map (ms.push { key := ck, val := cv, born := clock }) (clock + 1)) hes trivial hp (by
                refine ⟨by simpa using g2.1, fun n y mm hy hmm => ?_⟩
                have hl : ms.size = es.length := by simpa using g2.1
                rw [Array.getElem?_push] at hmm
                by_cases hn : n = ms.size
                · rw [if_pos hn] at hmm
                  cases hmm
                  rw [List.getElem?_append_right (by omega)] at hy
                  rw [hn, hl] at hy
                  simp at hy
                  subst hy
                  exact ⟨key_noenv hk hkk, hv⟩
                · rw [if_neg hn] at hmm
                  have hlt : n < ms.size := by
                    have := (Array.getElem?_eq_some_iff.1 hmm).1
                    omega
                  rw [List.getElem?_append_left (by omega)] at hy
                  exact g2.2 n y mm hy (by simpa using hmm))
              refine ⟨undef, _, _, _, .inr ⟨?_, rfl⟩, .any _ _, r1, r2⟩
              simp [asSkip, Instr.mapUpdate, run_underlying hd3, Result.andThen, getO g1, hck _ 9999, findK hk3 hf, setO _ g1]
            · trivial
          · trivial
        · trivial
      · trivial
    · trivial
  · trivial
def aMax (args : List AV) : AR := match args with
  | [.int k a, .int k' b] => if k = k' then .val (.int k (if b > a then b else a)) else .bad
  | _ => .bad
def aMin (args : List AV) : AR := match args with
  | [.int k a, .int k' b] => if k = k' then .val (.int k (if b < a then b else a)) else .bad
  | _ => .bad
theorem aMax_ok {P : Program} {sn : Snap} {ρ : Env} {H : Heap} {w : World} {ts : Array TypeId} {t : TypeId} {args : List AV} {cs : Array Value} (h : VRs sn ρ args cs.toList) : (aMax args).ok P ((asNext (Builtin.max_ ts t cs)).run P w) sn ρ H w := by
  unfold aMax
  split
  · rename_i k a k' b
    split
    · rename_i hk
      obtain ⟨l⟩ := cs
      obtain ⟨h1, h2⟩ := h
      match l, h1 with
      | [x, y], _ =>
        have hx := h2 0 _ _ rfl rfl
        have hy := h2 1 _ _ rfl rfl
        cases hx; cases hy
        exact ⟨_, by simp [asNext, Builtin.max_, Builtin.max2], .int _ _ _⟩
    · trivial
  · trivial
theorem aMin_ok {P : Program} {sn : Snap} {ρ : Env} {H : Heap} {w : World} {ts : Array TypeId} {t : TypeId} {args : List AV} {cs : Array Value} (h : VRs sn ρ args cs.toList) : (aMin args).ok P ((asNext (Builtin.min_ ts t cs)).run P w) sn ρ H w := by
  unfold aMin
  split
  · rename_i k a k' b
    split
    · rename_i hk
      obtain ⟨l⟩ := cs
      obtain ⟨h1, h2⟩ := h
      match l, h1 with
      | [x, y], _ =>
        have hx := h2 0 _ _ rfl rfl
        have hy := h2 1 _ _ rfl rfl
        cases hx; cases hy
        exact ⟨_, by simp [asNext, Builtin.min_, Builtin.min2], .int _ _ _⟩
    · trivial
  · trivial
end Go.AM
