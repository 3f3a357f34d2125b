/- Rules for evaluating the walk by rewriting. No condition. -/
import Derived.Test.YtojfnagfafoiaaaDoorKB
set_option linter.unusedVariables false
set_option linter.unusedSimpArgs false
namespace Go.AM

/-- The rest of a region behind an operation. -/
def rK (P : Program) (ops : Array Oper) (r : AR) (d : Option Tmp) (rest : List Oper) (Q : XQ) (s : Ch) (H : Heap) : Prop :=
  r.k P H (fun v H' => cops P ops rest Q (s.put? d v) H') (fun v H' => Q (.pan v) s H')
def gD (P : Program) (ops : Array Oper) (v : AV) (want : Bool) (op : Op) (d : Option Tmp) (rest : List Oper) (Q : XQ) (s : Ch) (H : Heap) : Prop :=
  gk v want (rK P ops (aop P s H op) d rest Q s H) (cops P ops rest Q (s.put? d (.tuple [])) H)

section
variable {P : Program} {ops : Array Oper} {d : Option Tmp} {dd : Tmp} {op : Op} {ty : TypeId} {pos : String} {af : Array Edge} {rest : List Oper} {Q : XQ} {s : Ch} {H H' : Heap} {j : Nat} {want : Bool} {v : AV} {b : Blk} {n : Nat} {D : Fx}
theorem c_nil : cops P ops [] Q s H = Q .normal s H := id rfl
theorem c_none : cops P ops (⟨d, op, ty, pos, af, none⟩ :: rest) Q s H = rK P ops (aop P s H op) d rest Q s H := id rfl
theorem c_some : cops P ops (⟨d, op, ty, pos, af, some (j, want)⟩ :: rest) Q s H = gD P ops (gval ops s j) want op d rest Q s H := id rfl
theorem gD_same {b : Bool} : gD P ops (.bool b) b op d rest Q s H = rK P ops (aop P s H op) d rest Q s H := by simp [gD, gk]
theorem gD_tf : gD P ops (.bool true) false op (some dd) rest Q s H = cops P ops rest Q (s.put dd (.tuple [])) H := by simp [gD, gk, Ch.put?]
theorem gD_ft : gD P ops (.bool false) true op (some dd) rest Q s H = cops P ops rest Q (s.put dd (.tuple [])) H := by simp [gD, gk, Ch.put?]
theorem gD_tfn : gD P ops (.bool true) false op none rest Q s H = cops P ops rest Q s H := by simp [gD, gk, Ch.put?]
theorem gD_ftn : gD P ops (.bool false) true op none rest Q s H = cops P ops rest Q s H := by simp [gD, gk, Ch.put?]
theorem gD_un : gD P ops (.tuple []) want op (some dd) rest Q s H = cops P ops rest Q (s.put dd (.tuple [])) H := by simp [gD, gk, Ch.put?]
theorem gD_unn : gD P ops (.tuple []) want op none rest Q s H = cops P ops rest Q s H := by simp [gD, gk, Ch.put?]
theorem gD_split {b : Bool} (h1 : b = want → rK P ops (aop P s H op) d rest Q s H) (h2 : b ≠ want → cops P ops rest Q (s.put? d (.tuple [])) H) : gD P ops (.bool b) want op d rest Q s H := by
  unfold gD gk
  by_cases h : b = want
  · simp [h]; exact h1 h
  · simp [h]; exact h2 h
theorem rK_val : rK P ops (.val v) (some dd) rest Q s H = cops P ops rest Q (s.put dd v) H := id rfl
theorem rK_valn : rK P ops (.val v) none rest Q s H = cops P ops rest Q s H := id rfl
theorem rK_chk {p : Prop} {r : AR} : rK P ops (.chk p r) d rest Q s H = (p ∧ rK P ops r d rest Q s H) := id rfl
theorem rK_chkT {r : AR} : rK P ops (.chk True r) d rest Q s H = rK P ops r d rest Q s H := by simp [rK, AR.k]
theorem rK_ndb {p : Bool → Prop} : rK P ops (.ndb p) (some dd) rest Q s H = ∀ b, p b → cops P ops rest Q (s.put dd (.bool b)) H := id rfl
/-- A heap that is being put together. -/
def hK (P : Program) (ops : Array Oper) (rest : List Oper) (Q : XQ) (s : Ch) (H : Heap) : Prop := cops P ops rest Q s H
theorem hK_cons : hK P ops rest Q s (b :: H) = cops P ops rest Q s (b :: H) := id rfl
def aK (P : Program) (ops : Array Oper) (v : AV) (d : Option Tmp) (rest : List Oper) (Q : XQ) (s : Ch) (H : Heap) : Prop := hK P ops rest Q (s.put? d v) H
theorem aK_ptr {r i j : Nat} : aK P ops (.ptr r i j) (some dd) rest Q s H = hK P ops rest Q (s.put dd (.ptr r i j)) H := id rfl
theorem aK_sl {r i j : Nat} {c : Option Nat} : aK P ops (.sl r i j c) (some dd) rest Q s H = hK P ops rest Q (s.put dd (.sl r i j c)) H := id rfl
theorem aK_map {r : Nat} : aK P ops (.map r) (some dd) rest Q s H = hK P ops rest Q (s.put dd (.map r)) H := id rfl
theorem aK_any : aK P ops .any none rest Q s H = hK P ops rest Q s H := id rfl
theorem rK_alloc {f : Nat → AV} : rK P ops (.alloc b f) d rest Q s H = aK P ops (f H.length) d rest Q s (H ++ [b]) := id rfl
theorem rK_upd : rK P ops (.upd H' v) d rest Q s H = aK P ops v d rest Q s H' := id rfl
theorem rK_pan : rK P ops (.pan v) d rest Q s H = Q (.pan v) s H := id rfl
theorem rK_call {f : FuncId} {args : List AV} : rK P ops (.call f args) d rest Q s H = (Enters P f ∧ ACalls P f args H (fun o H' => match o with | .ret v => cops P ops rest Q (s.put? d v) H' | .pan v => Q (.pan v) s H')) := id rfl
theorem rK_congr {r r' : AR} (h : r = r') : rK P ops r d rest Q s H = rK P ops r' d rest Q s H := by rw [h]

theorem o_move {x : Operand} : aop P s H (.move x) = .val (cev s x) := id rfl
theorem o_assign {x : Operand} : aop P s H (.assign x) = .val (cev s x) := id rfl
theorem o_pick {c x y : Operand} : aop P s H (.pick c x y) = aPick (cev s c) (cev s x) (cev s y) := id rfl
theorem o_alloc {t : TypeId} : aop P s H (.alloc t) = aAlloc P t := id rfl
theorem o_box {t : TypeId} {x : Operand} : aop P s H (.box t x) = aBox (cev s x).cells := id rfl
theorem o_build {t : TypeId} {l : List (Nat × Operand)} : aop P s H (.build t l.toArray) = aBuild P t (l.map fun p => (p.1, cev s p.2)) := id rfl
theorem o_buildSlice {t : TypeId} {len : Nat} {l : List (Nat × Operand)} : aop P s H (.buildSlice t len l.toArray) = aBuildSlice P t len (l.map fun p => (p.1, cev s p.2)) := id rfl
theorem o_load {t : TypeId} {x : Operand} : aop P s H (.load t x) = aLoad P t (cev s x) H := id rfl
theorem o_store {t : TypeId} {x y : Operand} : aop P s H (.store t x y) = aStore P t (cev s x) (cev s y) H := id rfl
theorem o_nilCheck {x : Operand} : aop P s H (.nilCheck x) = aNilCheck (cev s x) := id rfl
theorem o_binOp {o : BinOp} {t u : TypeId} {x y : Operand} : aop P s H (.binOp o t x y u) = aBinO P o t y (cev s x) (cev s y) := id rfl
theorem o_unOp {o : UnOp} {t : TypeId} {x : Operand} : aop P s H (.unOp o t x) = aUn o (cev s x) := id rfl
theorem o_convert {t u : TypeId} {x : Operand} : aop P s H (.convert t u x) = aConv P t u (cev s x) := id rfl
theorem o_slarr {t : TypeId} {x : Operand} : aop P s H (.sliceToArrayPointer t x) = aArrPtr P t (cev s x) := id rfl
theorem o_insert {t : TypeId} {x y z : Operand} : aop P s H (.insert t x y z) = aMapUpd P t (cev s x) (cev s y) (cev s z) H := id rfl
theorem o_makeInterface {t : TypeId} {x : Operand} : aop P s H (.makeInterface t x) = aMakeIface P t (cev s x) := id rfl
theorem o_makeFunc {fn : Fn} {l m : List Operand} : aop P s H (.makeFunc fn l.toArray m.toArray) = .val (.func fn (l.map (cev s)) (m.map (cev s))) := id rfl
theorem o_makeSlice {t : TypeId} {x y : Operand} : aop P s H (.makeSlice t x y) = aMakeSlice P t (cev s x) (cev s y) := id rfl
theorem o_slice {t : TypeId} {x : Operand} {lo hi mx : Option Operand} : aop P s H (.slice t x lo hi mx) = aSlice P t (cev s x) H (lo.map (cev s)) (hi.map (cev s)) (mx.map (cev s)) := id rfl
theorem o_fieldAddr {t : TypeId} {x : Operand} {f : Nat} : aop P s H (.fieldAddr t x f) = aFieldAddr P t (cev s x) f := id rfl
theorem o_field {t : TypeId} {x : Operand} {f : Nat} : aop P s H (.field t x f) = aField P t (cev s x) f := id rfl
theorem o_indexAddr {t : TypeId} {x y : Operand} : aop P s H (.indexAddr t x y) = aIndexAddr P t (cev s x) (cev s y) H := id rfl
theorem o_index {t : TypeId} {x y : Operand} : aop P s H (.index t x y) = aIndexV P t (cev s x) (cev s y) := id rfl
theorem o_typeAssert {t u : TypeId} {x : Operand} {ok : Bool} : aop P s H (.typeAssert x u t ok) = aAssert P (cev s x) t ok := id rfl
theorem o_extract {x : Operand} {k : Nat} : aop P s H (.extract x k) = aExtract (cev s x) k := id rfl
theorem o_call {f : Operand} {l : List Operand} {ts : Array TypeId} : aop P s H (.call ⟨.value f, l.toArray, ts⟩) = aCallV (cev s f) (l.map (cev s)) := id rfl
theorem o_len {x : Operand} {t : TypeId} : aop P s H (.call ⟨.builtin .len, #[x], #[t]⟩) = aLen P t (cev s x) := id rfl
theorem o_copy {x y : Operand} {t u : TypeId} : aop P s H (.call ⟨.builtin .copy, #[x, y], #[t, u]⟩) = aCopy P t (cev s x) (cev s y) H := id rfl
theorem o_append {x y : Operand} {t u : TypeId} : aop P s H (.call ⟨.builtin .append, #[x, y], #[t, u]⟩) = aAppend P t u (cev s x) (cev s y) H := id rfl
theorem o_panic {x : Operand} : aop P s H (.panic x) = aPanIf (cev s x) := id rfl
theorem o_panicb {x : Operand} {ts : Array TypeId} : aop P s H (.call ⟨.builtin .panic, #[x], ts⟩) = aPanIf (cev s x) := id rfl

theorem o_lookup {t : TypeId} {x y : Operand} {ok : Bool} : aop P s H (.lookup t x y ok) = aLookup P t (cev s x) (cev s y) ok H := id rfl
theorem o_mapUpdate {t : TypeId} {x y z : Operand} : aop P s H (.mapUpdate t x y z) = aMapUpd P t (cev s x) (cev s y) (cev s z) H := id rfl
theorem o_makeMap {t : TypeId} {r : Option Operand} : aop P s H (.makeMap t r) = aMakeMap (r.map (cev s)) := id rfl
theorem o_max {l : List Operand} {ts : Array TypeId} : aop P s H (.call ⟨.builtin .max, l.toArray, ts⟩) = aMax (l.map (cev s)) := id rfl
theorem o_min {l : List Operand} {ts : Array TypeId} : aop P s H (.call ⟨.builtin .min, l.toArray, ts⟩) = aMin (l.map (cev s)) := id rfl
theorem cev_tmp {t : Tmp} : cev s (.tmp t) = s.get t := id rfl
theorem cev_glob {g : Nat} : cev s (.global g) = gAV g := id rfl
theorem cev_func {f : FuncId} : cev s (.func f) = .func (.func f) [] [] := id rfl
theorem cev_int {k : IntKind} {n : Int} : cev s (.const (.int k n)) = .int k n := id rfl
theorem cev_bool {b : Bool} : cev s (.const (.bool b)) = .bool b := id rfl
theorem cev_str {b : ByteArray} : cev s (.const (.string b)) = .str b := id rfl
theorem cev_nil : cev s (.const (.slice none 0 0)) = .view true 0 [] := id rfl
theorem cev_nilptr : cev s (.const (.pointer none)) = .nilptr := id rfl
theorem cev_nilif : cev s (.const .nilIface) = .nilif := id rfl
theorem cev_nilfunc : cev s (.const .nilFunc) = .nilfunc := id rfl
theorem cev_nilmap : cev s (.const (.map none)) = .nilmap := id rfl
theorem get_put {d t : Nat} : (s.put d v).get t = if t = d then v else s.get t := id rfl
theorem get_nil {t : Nat} : Ch.nil.get t = .any := id rfl

theorem w_skip : cwp P n D .skip Q s H = Q .normal s H := id rfl
theorem w_label {l : Nat} : cwp P n D (.label l) Q s H = Q .normal s H := id rfl
theorem w_ret : cwp P n D .ret Q s H = Q .ret s H := id rfl
theorem w_exit {i : Nat} : cwp P n D (.exit i) Q s H = Q (.exit i) s H := id rfl
theorem w_region {i : Nat} {l : List Oper} : cwp P n D (.region i l.toArray false) Q s H = cops P l.toArray l Q s H := id rfl
def seqD (b : Bool) (P : Program) (n : Nat) (D : Fx) (x y : Code) (Q : XQ) (s : Ch) (H : Heap) : Prop :=
  if b = true then ∃ K : KQ, cwp P n D x (thenX K Q) s H ∧ ∀ s' H', K s' H' → SWp P n D y Q s' H' else cwp P n D x (thenX (cwp P n D y Q) Q) s H
theorem w_seq {x y : Code} : cwp P n D (.seq x y) Q s H = seqD (cutIn y D.cuts) P n D x y Q s H := id rfl
theorem w_seq0 {d : List Deferred} {B : Nat} {x y : Code} : cwp P n ⟨d, B, []⟩ (.seq x y) Q s H = cwp P n ⟨d, B, []⟩ x (thenX (cwp P n ⟨d, B, []⟩ y Q) Q) s H := id rfl
theorem w_seqc {d : List Deferred} {B c : Nat} {cs : List Nat} {x y : Code} : cwp P n ⟨d, B, c :: cs⟩ (.seq x y) Q s H = seqD (cutR (c :: cs) y) P n ⟨d, B, c :: cs⟩ x y Q s H := id rfl
theorem seqD_false {x y : Code} : seqD false P n D x y Q s H = cwp P n D x (thenX (cwp P n D y Q) Q) s H := id rfl
theorem cutIn_nil {y : Code} : cutIn y [] = false := id rfl
theorem cutIn_cons {y : Code} {c : Nat} {cs : List Nat} : cutIn y (c :: cs) = cutR (c :: cs) y := id rfl
theorem cutR_seq {x y : Code} {cs : List Nat} : cutR cs (.seq x y) = cutR cs x := id rfl
theorem cutR_block {x : Code} {i : Nat} {cs : List Nat} : cutR cs (.block i x) = cutR cs x := id rfl
theorem cutR_loop {x : Code} {cs : List Nat} : cutR cs (.loop x) = cutR cs x := id rfl
theorem cutR_region {i : Nat} {l : Array Oper} {b : Bool} {cs : List Nat} : cutR cs (.region i l b) = memN i cs := id rfl
theorem cutR_cond {c : Operand} {x y : Code} {cs : List Nat} : cutR cs (.cond c x y) = false := id rfl
theorem cutR_ret {cs : List Nat} : cutR cs .ret = false := id rfl
theorem cutR_skip {cs : List Nat} : cutR cs .skip = false := id rfl
theorem cutR_exit {i : Nat} {cs : List Nat} : cutR cs (.exit i) = false := id rfl
theorem memN_nil {i : Nat} : memN i [] = false := id rfl
theorem memN_cons {i c : Nat} {cs : List Nat} : memN i (c :: cs) = if i = c then true else memN i cs := id rfl
def condD (P : Program) (n : Nat) (D : Fx) (v : AV) (x y : Code) (Q : XQ) (s : Ch) (H : Heap) : Prop := condK v (cwp P n D x Q s H) (cwp P n D y Q s H)
theorem w_cond {c : Operand} {x y : Code} : cwp P n D (.cond c x y) Q s H = condD P n D (cev s c) x y Q s H := id rfl
theorem condD_true {x y : Code} : condD P n D (.bool true) x y Q s H = cwp P n D x Q s H := by simp [condD, condK]
theorem condD_false {x y : Code} : condD P n D (.bool false) x y Q s H = cwp P n D y Q s H := by simp [condD, condK]
theorem condD_split {b : Bool} {x y : Code} (h1 : b = true → cwp P n D x Q s H) (h2 : b = false → cwp P n D y Q s H) : condD P n D (.bool b) x y Q s H := ⟨h1, h2⟩
theorem w_block {i : Nat} {x : Code} : cwp P n D (.block i x) Q s H = cwp P n D x (blockX i Q) s H := id rfl
theorem w_loop {x : Code} : cwp P n D (.loop x) Q s H = ∃ k, rounds (SWp P n D x) Q k s H := id rfl
theorem thenX_normal {K : KQ} : thenX K Q .normal s H = K s H := id rfl
theorem thenX_ret {K : KQ} : thenX K Q .ret s H = Q .ret s H := id rfl
theorem thenX_exit {K : KQ} {i : Nat} : thenX K Q (.exit i) s H = Q (.exit i) s H := id rfl
theorem thenX_pan {K : KQ} : thenX K Q (.pan v) s H = Q (.pan v) s H := id rfl
theorem blockX_normal {i : Nat} : blockX i Q .normal s H = Q .normal s H := id rfl
theorem blockX_ret {i : Nat} : blockX i Q .ret s H = Q .ret s H := id rfl
theorem blockX_pan {i : Nat} : blockX i Q (.pan v) s H = Q (.pan v) s H := id rfl
theorem blockX_exit {i j : Nat} : blockX i Q (.exit j) s H = if j = i then Q .normal s H else Q (.exit j) s H := by
  simp only [blockX]; split <;> rfl
theorem bodyX_ret {rs : List ResultVar} {Q : CQ} : bodyX P rs Q .ret s H = packRes (aResults P s H rs) (fun v => Q (.ret v) H) := id rfl
theorem bodyX_normal {rs : List ResultVar} {Q : CQ} : bodyX P rs Q .normal s H = packRes (aResults P s H rs) (fun v => Q (.ret v) H) := id rfl
theorem bodyX_pan {rs : List ResultVar} {Q : CQ} : bodyX P rs Q (.pan v) s H = Q (.pan v) H := id rfl
theorem res_nil : aResults P s H [] = some [] := id rfl
theorem res_tmp {t : Tmp} {rs : List ResultVar} : aResults P s H (.tmp t :: rs) = (aResults P s H rs).map (s.get t :: ·) := by
  simp only [aResults, aResult]; cases aResults P s H rs <;> rfl
theorem pack_one {K : AV → Prop} : packRes (some [v]) K = K v := id rfl
theorem pack_none {K : AV → Prop} : packRes (some []) K = K (.tuple []) := id rfl
theorem pack_more {u : AV} {l : List AV} {K : AV → Prop} : packRes (some (v :: u :: l)) K = K (.tuple (v :: u :: l)) := id rfl
theorem args_cons {x : AV} {xs : List AV} {k : Nat} : argsCh (x :: xs) k s = argsCh xs (k + 1) (s.put k x) := id rfl
theorem args_nil {k : Nat} : argsCh [] k s = s := id rfl
theorem gD_dec {p : Prop} [Decidable p] (h1 : p → gD P ops (.bool true) want op d rest Q s H) (h2 : ¬ p → gD P ops (.bool false) want op d rest Q s H) : gD P ops (.bool (decide p)) want op d rest Q s H := by
  by_cases h : p
  · simpa [h] using h1 h
  · simpa [h] using h2 h
theorem condD_dec {p : Prop} [Decidable p] {x y : Code} (h1 : p → cwp P n D x Q s H) (h2 : ¬ p → cwp P n D y Q s H) : condD P n D (.bool (decide p)) x y Q s H :=
  ⟨fun h => h1 (of_decide_eq_true h), fun h => h2 (of_decide_eq_false h)⟩
end
end Go.AM

namespace Go.AM
attribute [go_sem ↓] c_nil c_none c_some w_skip w_label w_ret w_exit w_region w_seq0 w_seqc seqD_false w_cond w_block thenX_normal thenX_ret thenX_exit thenX_pan blockX_normal blockX_ret blockX_pan blockX_exit bodyX_ret bodyX_normal bodyX_pan
attribute [go_sem] args_cons args_nil o_move o_assign o_pick o_alloc o_box o_build o_buildSlice o_load o_store o_nilCheck o_binOp o_unOp o_convert o_slarr o_insert o_copy o_makeInterface o_makeFunc o_makeSlice o_slice o_fieldAddr o_field o_indexAddr o_index o_typeAssert o_extract o_call o_len o_append o_panic o_panicb o_lookup o_mapUpdate o_makeMap o_max o_min cev_tmp cev_glob cev_func cev_int cev_bool cev_str cev_nil cev_nilptr cev_nilif cev_nilfunc cev_nilmap get_put get_nil cutR_seq cutR_block cutR_loop cutR_region cutR_cond cutR_ret cutR_skip cutR_exit memN_nil memN_cons condD_true condD_false res_nil res_tmp pack_one pack_none pack_more rK_val rK_valn rK_chkT rK_alloc rK_upd rK_pan aK_ptr aK_sl aK_map aK_any hK_cons gD_same gD_tf gD_ft gD_tfn gD_ftn gD_un gD_unn aLoad aLoadPtr aLoadBlk aLoadRow aStore aStorePtr aStoreBlk aAlloc aBox AV.cells AV.one aFieldAddr aFieldAddrPtr aField aIndexAddr aIndexD aIndexSl aIndexBlk aIndexArr aLen aSlice aSliceD aSliceV aSliceView2 aSliceSl2 aSliceStr Bd.of Bd.lo aAppend aAppendE aAppendView aAppendSl TD.isSeq aElems aLenOf aBinO aAggs aAggEq aAggEqL aAggEqB eqCs eqC isNilSl isNilIf aNilIf aNilSlO aNilSl AV.slLen aBin aInt2 aInts aShift aBools aStrs aNil aUn aExtract aMakeIface aNilCheck aPick aAssert aFill aBuild aBuildD aFillRows aBuildSlice aBuildSliceE aMakeSlice aMakeSliceE aConv aConvS aBytesStr rowBytes_map aArrPtr aArrPtrD aCopy aCopyE aCopyB aCopyR aSliceArr aConvNum aConvD aIndexV aCallV aPanIf aLookup aMapUpd aMapUpdE aMapUpdB aLookupE mEnts keyAV keyEq mfind lookRes aMakeMap aMax aMin TD.isAgg splice rowAt gval List.map_cons List.map_nil List.getElem?_cons_zero List.getElem?_cons_succ List.getElem?_nil Option.getD_some Option.getD_none Option.map_some Option.map_none List.length_cons List.length_nil List.take_succ_cons List.take_zero List.take_nil List.drop_zero List.drop_succ_cons List.drop_nil List.nil_append List.cons_append List.append_nil List.set_cons_zero List.set_cons_succ List.all_cons List.all_nil Bool.and_self Bool.and_true Bool.true_and Bool.false_eq_true Nat.zero_add Nat.add_zero Nat.mul_one Nat.one_mul Nat.zero_mul Nat.lt_add_one Nat.le_refl true_and and_true and_self ne_eq not_false_eq_true not_true_eq_false Option.isSome_some List.replicate_zero List.replicate_succ Int.toNat_zero Int.toNat_natCast Bool.not_true Bool.not_false decide_true decide_false List.getElem?_toArray Ch.put? Option.bind_some Option.bind_none true_or or_true Nat.le_add_left List.append_assoc IntKind.wrap_i64 eq_self
end Go.AM

set_option linter.unusedVariables false
set_option linter.unusedSimpArgs false
namespace Go.AM

/-! ### other numbers -/
mutual
def AV.ren (π : Nat → Nat) : AV → AV
  | .ptr r i j => .ptr (π r) i j
  | .sl r off len cap => .sl (π r) off len cap
  | .map r => .map (π r)
  | .chan r => .chan (π r)
  | .yfn r => .yfn (π r)
  | .rsl r i j len => .rsl (π r) i j len
  | .func fn xs ys => .func fn (renL π xs) (renL π ys)
  | .iface t v => .iface t (AV.ren π v)
  | .agg cs => .agg (renL π cs)
  | .tuple vs => .tuple (renL π vs)
  | .any => .any | .bool b => .bool b | .int k n => .int k n | .str s => .str s | .nilptr => .nilptr
  | .cptr row j => .cptr row j | .view f z xs => .view f z xs | .nilchan => .nilchan | .nilmap => .nilmap | .nilfunc => .nilfunc | .nilif => .nilif
def renL (π : Nat → Nat) : List AV → List AV
  | [] => []
  | x :: xs => AV.ren π x :: renL π xs
end
theorem renL_map (π : Nat → Nat) : ∀ (xs : List AV), renL π xs = xs.map (AV.ren π)
  | [] => by simp [renL]
  | x :: xs => by simp [renL, renL_map π xs]
def Ch.ren (π : Nat → Nat) : Ch → Ch
  | .nil => .nil
  | .put s d v => .put (s.ren π) d (v.ren π)
theorem Ch.get_ren (π : Nat → Nat) : ∀ (s : Ch) (t : Nat), (s.ren π).get t = (s.get t).ren π
  | .nil, t => rfl
  | .put s d v, t => by
    simp only [Ch.ren, Ch.get, Ch.get_ren π s]
    split <;> rfl
def Blk.ren (π : Nat → Nat) : Blk → Blk
  | .dead => .dead
  | .rows sz xs => .rows sz (xs.map fun row => row.map (AV.ren π))
  | .amap es => .amap (es.map fun e => (e.1, e.2.ren π))
  | .raw q => .raw q
  | .lrec q n s => .lrec q n (s.ren π)

theorem one_ren (π : Nat → Nat) (x : AV) : (x.ren π).one = x.one := by cases x <;> simp [AV.ren, AV.one]

theorem VR.ren {sn : Snap} {ρ : Env} {x : AV} {v : Value} (h : VR sn ρ x v) : ∀ {π : Nat → Nat} {ρ' : Env}, (∀ r p, ρ r = some p → ρ' (π r) = some p) → VR sn ρ' (x.ren π) v := by
  induction h with
  | any => intro _ _ _; simp only [AV.ren]; exact .any _ _
  | bool => intro _ _ _; simp only [AV.ren]; exact .bool _ _
  | int => intro _ _ _; simp only [AV.ren]; exact .int _ _ _
  | str => intro _ _ _; simp only [AV.ren]; exact .str _ _
  | nilptr => intro _ _ _; simp only [AV.ren]; exact .nilptr _
  | ptr ρ r i j p h => intro π ρ' hr; simp only [AV.ren]; exact .ptr _ _ _ _ _ (hr _ _ h)
  | cptr ρ row j b o vs hc ho hr ih => intro π ρ' _; simp only [AV.ren]; exact .cptr _ _ _ b o vs hc ho hr
  | view ρ full sz xs a b o c vs hl hm hf ha hz hc ho hr ih => intro π ρ' _; simp only [AV.ren]; exact .view _ _ _ _ a b o c vs hl hm hf ha hz hc ho hr
  | sl ρ r off len c cap ad p h ha hl hm hn hc => intro π ρ' hr; simp only [AV.ren]; exact .sl _ _ _ _ _ _ ad p (hr _ _ h) ha hl hm hn hc
  | sl0 ρ r off cap a hc => intro π ρ' hr; simp only [AV.ren]; exact .sl0 _ _ _ _ a hc
  | nilchan => intro _ _ _; simp only [AV.ren]; exact .nilchan _
  | chan ρ r p h => intro π ρ' hr; simp only [AV.ren]; exact .chan _ _ p (hr _ _ h)
  | yfn ρ r p h => intro π ρ' hr; simp only [AV.ren]; exact .yfn _ _ p (hr _ _ h)
  | rsl ρ r i j len p h hm => intro π ρ' hr; simp only [AV.ren]; exact .rsl _ _ _ _ _ p (hr _ _ h) hm
  | nilmap => intro _ _ _; simp only [AV.ren]; exact .nilmap _
  | map ρ r p h => intro π ρ' hr; simp only [AV.ren]; exact .map _ _ p (hr _ _ h)
  | nilfunc => intro _ _ _; simp only [AV.ren]; exact .nilfunc _
  | func ρ fn xs ys us vs hu hv h1 h2 ih1 ih2 =>
    intro π ρ' hr
    simp only [AV.ren, renL_map]
    refine .func _ _ _ _ _ _ (by simpa using hu) (by simpa using hv) (fun k x y hx hy => ?_) (fun k x y hx hy => ?_)
    · simp only [List.getElem?_map, Option.map_eq_some_iff] at hx
      obtain ⟨z, hz, rfl⟩ := hx
      exact ih1 k z y hz hy hr
    · simp only [List.getElem?_map, Option.map_eq_some_iff] at hx
      obtain ⟨z, hz, rfl⟩ := hx
      exact ih2 k z y hz hy hr
  | nilif => intro _ _ _; simp only [AV.ren]; exact .nilif _
  | iface ρ t x y h ih => intro π ρ' hr; simp only [AV.ren]; exact .iface _ _ _ _ (ih hr)
  | agg ρ xs ys hs' h ih =>
    intro π ρ' hr
    simp only [AV.ren, renL_map]
    refine .agg _ _ _ (by simpa using hs') (fun k x y hx hy => ?_)
    simp only [List.getElem?_map, Option.map_eq_some_iff] at hx
    obtain ⟨z, hz, rfl⟩ := hx
    exact ih k z y hz hy hr
  | tuple ρ xs ys hs' h ih =>
    intro π ρ' hr
    simp only [AV.ren, renL_map]
    refine .tuple _ _ _ (by simpa using hs') (fun k x y hx hy => ?_)
    simp only [List.getElem?_map, Option.map_eq_some_iff] at hx
    obtain ⟨z, hz, rfl⟩ := hx
    exact ih k z y hz hy hr

theorem VR.unren {sn : Snap} {ρ : Env} {y : AV} {v : Value} (h : VR sn ρ y v) : ∀ {π : Nat → Nat} {ρ' : Env} {x : AV}, y = x.ren π → (∀ r p, ρ (π r) = some p → ρ' r = some p) → VR sn ρ' x v := by
  induction h with
  | any => intro π ρ' x e _; cases x <;> simp [AV.ren] at e; exact .any _ _
  | bool => intro π ρ' x e _; cases x <;> simp [AV.ren] at e; subst e; exact .bool _ _
  | int => intro π ρ' x e _; cases x <;> simp [AV.ren] at e; obtain ⟨rfl, rfl⟩ := e; exact .int _ _ _
  | str => intro π ρ' x e _; cases x <;> simp [AV.ren] at e; subst e; exact .str _ _
  | nilptr => intro π ρ' x e _; cases x <;> simp [AV.ren] at e; exact .nilptr _
  | ptr ρ r i j p h => intro π ρ' x e hr; cases x <;> simp [AV.ren] at e; obtain ⟨rfl, rfl, rfl⟩ := e; exact .ptr _ _ _ _ _ (hr _ _ h)
  | cptr ρ row j b o vs hc ho hr ih => intro π ρ' x e _; cases x <;> simp [AV.ren] at e; obtain ⟨rfl, rfl⟩ := e; exact .cptr _ _ _ b o vs hc ho hr
  | view ρ full sz xs a b o c vs hl hm hf ha hz hc ho hr ih => intro π ρ' x e _; cases x <;> simp [AV.ren] at e; obtain ⟨rfl, rfl, rfl⟩ := e; exact .view _ _ _ _ a b o c vs hl hm hf ha hz hc ho hr
  | sl ρ r off len c cap ad p h ha hl hm hn hc => intro π ρ' x e hr; cases x <;> simp [AV.ren] at e; obtain ⟨rfl, rfl, rfl, rfl⟩ := e; exact .sl _ _ _ _ _ _ ad p (hr _ _ h) ha hl hm hn hc
  | sl0 ρ r off cap a hc => intro π ρ' x e hr; cases x <;> simp [AV.ren] at e; obtain ⟨rfl, rfl, rfl, rfl⟩ := e; exact .sl0 _ _ _ _ a hc
  | nilchan => intro π ρ' x e _; cases x <;> simp [AV.ren] at e; exact .nilchan _
  | chan ρ r p h => intro π ρ' x e hr; cases x <;> simp [AV.ren] at e; subst e; exact .chan _ _ p (hr _ _ h)
  | yfn ρ r p h => intro π ρ' x e hr; cases x <;> simp [AV.ren] at e; subst e; exact .yfn _ _ p (hr _ _ h)
  | rsl ρ r i j len p h hm => intro π ρ' x e hr; cases x <;> simp [AV.ren] at e; obtain ⟨rfl, rfl, rfl, rfl⟩ := e; exact .rsl _ _ _ _ _ p (hr _ _ h) hm
  | nilmap => intro π ρ' x e _; cases x <;> simp [AV.ren] at e; exact .nilmap _
  | map ρ r p h => intro π ρ' x e hr; cases x <;> simp [AV.ren] at e; subst e; exact .map _ _ p (hr _ _ h)
  | nilfunc => intro π ρ' x e _; cases x <;> simp [AV.ren] at e; exact .nilfunc _
  | func ρ fn xs ys us vs hu hv h1 h2 ih1 ih2 =>
    intro π ρ' x e hr
    cases x <;> simp [AV.ren, renL_map] at e
    obtain ⟨rfl, rfl, rfl⟩ := e
    refine .func _ _ _ _ _ _ (by simpa using hu) (by simpa using hv) (fun k x y hx hy => ?_) (fun k x y hx hy => ?_)
    · exact ih1 k (x.ren π) y (by simp [hx]) hy rfl hr
    · exact ih2 k (x.ren π) y (by simp [hx]) hy rfl hr
  | nilif => intro π ρ' x e _; cases x <;> simp [AV.ren] at e; exact .nilif _
  | iface ρ t x y h ih => intro π ρ' x e hr; cases x <;> simp [AV.ren] at e; obtain ⟨rfl, rfl⟩ := e; exact .iface _ _ _ _ (ih rfl hr)
  | agg ρ xs ys hs' h ih =>
    intro π ρ' x e hr
    cases x <;> simp [AV.ren, renL_map] at e
    subst e
    exact .agg _ _ _ (by simpa using hs') (fun k x y hx hy => ih k (x.ren π) y (by simp [hx]) hy rfl hr)
  | tuple ρ xs ys hs' h ih =>
    intro π ρ' x e hr
    cases x <;> simp [AV.ren, renL_map] at e
    subst e
    exact .tuple _ _ _ (by simpa using hs') (fun k x y hx hy => ih k (x.ren π) y (by simp [hx]) hy rfl hr)

theorem BlkR.ren {sn : Snap} {ρ ρ' : Env} {π : Nat → Nat} {p : Place} {b : Blk} {o : Obj} (hr : ∀ r p, ρ r = some p → ρ' (π r) = some p) (h : BlkR sn ρ p b o) : BlkR sn ρ' p (b.ren π) o := by
  cases b with
  | dead => trivial
  | rows sz xs =>
    cases o <;> simp only [BlkR, Blk.ren] at h ⊢
    obtain ⟨h1, h2, h3, h4, h5, h6⟩ := h
    refine ⟨h1, h2, by simpa using h3, fun i row hi => ?_, fun i row hi j x hj => ?_, h6⟩
    · simp only [List.getElem?_map, Option.map_eq_some_iff] at hi
      obtain ⟨r, hr', rfl⟩ := hi
      simpa using h4 i r hr'
    · simp only [List.getElem?_map, Option.map_eq_some_iff] at hi
      obtain ⟨r, hr', rfl⟩ := hi
      simp only [List.getElem?_map, Option.map_eq_some_iff] at hj
      obtain ⟨y, hy, rfl⟩ := hj
      obtain ⟨v, e1, e2, e3⟩ := h5 i r hr' j y hy
      exact ⟨v, e1, by rw [one_ren]; exact e2, e3.ren hr⟩
  | amap es =>
    cases o <;> simp only [BlkR, Blk.ren] at h ⊢
    refine ⟨by simpa using h.1, fun k x m hx hm => ?_⟩
    simp only [List.getElem?_map, Option.map_eq_some_iff] at hx
    obtain ⟨y, hy, rfl⟩ := hx
    exact ⟨(h.2 k y m hy hm).1, (h.2 k y m hy hm).2.ren hr⟩
  | raw q => exact h
  | lrec q n s =>
    cases o <;> simp only [BlkR, Blk.ren] at h ⊢
    exact ⟨h.1, fun t => by rw [Ch.get_ren]; exact (h.2.1 t).ren hr, h.2.2⟩
theorem BlkR.unren {sn : Snap} {ρ ρ' : Env} {π : Nat → Nat} {p : Place} {b : Blk} {o : Obj} (hr : ∀ r p, ρ (π r) = some p → ρ' r = some p) (h : BlkR sn ρ p (b.ren π) o) : BlkR sn ρ' p b o := by
  cases b with
  | dead => trivial
  | rows sz xs =>
    cases o <;> simp only [BlkR, Blk.ren] at h ⊢
    obtain ⟨h1, h2, h3, h4, h5, h6⟩ := h
    refine ⟨h1, h2, by simpa using h3, fun i row hi => ?_, fun i row hi j x hj => ?_, h6⟩
    · have := h4 i (row.map (AV.ren π)) (by simp [hi])
      simpa using this
    · obtain ⟨v, e1, e2, e3⟩ := h5 i (row.map (AV.ren π)) (by simp [hi]) j (x.ren π) (by simp [hj])
      exact ⟨v, e1, by rw [one_ren] at e2; exact e2, e3.unren rfl hr⟩
  | amap es =>
    cases o <;> simp only [BlkR, Blk.ren] at h ⊢
    refine ⟨by simpa using h.1, fun k x m hx hm => ?_⟩
    have := h.2 k (x.1, x.2.ren π) m (by simp [hx]) hm
    exact ⟨this.1, this.2.unren rfl hr⟩
  | raw q => exact h
  | lrec q n s =>
    cases o <;> simp only [BlkR, Blk.ren] at h ⊢
    exact ⟨h.1, fun t => by have := h.2.1 t; rw [Ch.get_ren] at this; exact this.unren rfl hr, h.2.2⟩
theorem live_ren {π : Nat → Nat} {b : Blk} : (b.ren π).live ↔ b.live := by cases b <;> simp [Blk.ren, Blk.live]
end Go.AM

set_option linter.unusedVariables false
set_option linter.unusedSimpArgs false
namespace Go.AM

def setMany : Heap → List Nat → List Blk → Heap
  | H, [], _ => H
  | H, _ :: _, [] => H
  | H, i :: is, b :: bs => setMany (H.set i b) is bs
def Out.ren (π : Nat → Nat) : Out → Out
  | .ret v => .ret (v.ren π)
  | .pan v => .pan (v.ren π)
/-- The caller's number of the callee's block k. -/
def pi (sel : List Nat) (m : Nat) (k : Nat) : Nat := (sel[k]?).getD (m + (k - sel.length))
def patch (H : Heap) (sel : List Nat) (H0 : Heap) : Heap :=
  setMany H sel (H0.map (Blk.ren (pi sel H.length))) ++ (H0.drop sel.length).map (Blk.ren (pi sel H.length))

theorem setMany_length : ∀ (sel : List Nat) (H : Heap) (bs : List Blk), (setMany H sel bs).length = H.length := by
  intro sel
  induction sel with
  | nil => intro H bs; simp only [setMany]
  | cons i is ih =>
    intro H bs
    cases bs with
    | nil => simp only [setMany]
    | cons b bs => simp only [setMany]; rw [ih]; simp

theorem setMany_get : ∀ (sel : List Nat) (H : Heap) (bs : List Blk), sel.Nodup → sel.length ≤ bs.length → (∀ i ∈ sel, i < H.length) →
    ∀ r, (∀ k : Nat, sel[k]? = some r → (setMany H sel bs)[r]? = bs[k]?) ∧ (r ∉ sel → (setMany H sel bs)[r]? = H[r]?) := by
  intro sel
  induction sel with
  | nil => intro H bs _ _ _ r; exact ⟨fun k hk => by simp at hk, fun _ => by simp only [setMany]⟩
  | cons i is ih =>
    intro H bs hn hl hlt r
    cases bs with
    | nil => simp at hl
    | cons b bs =>
      simp only [List.nodup_cons] at hn
      obtain ⟨h1, h2⟩ := ih (H.set i b) bs hn.2 (by simpa using hl) (fun j hj => by simpa using hlt j (by simp [hj])) r
      simp only [setMany]
      refine ⟨fun k hk => ?_, fun hr => ?_⟩
      · cases k with
        | zero =>
          simp at hk
          subst hk
          rw [h2 hn.1]
          have := hlt i (by simp)
          simp [this]
        | succ k => simpa using h1 k (by simpa using hk)
      · simp only [List.mem_cons, not_or] at hr
        rw [h2 hr.2, List.getElem?_set]
        rw [if_neg (fun e => hr.1 e.symm)]

theorem pi_lt {sel : List Nat} {m k : Nat} (h : k < sel.length) : sel[k]? = some (pi sel m k) := by
  simp [pi, h]
theorem pi_ge {sel : List Nat} {m k : Nat} (h : sel.length ≤ k) : pi sel m k = m + (k - sel.length) := by
  simp [pi, List.getElem?_eq_none h]

theorem ACalls.use {P : Program} {f : FuncId} {args0 : List AV} {H0 : Heap} {Q0 Q : CQ} (hc : ACalls P f args0 H0 Q0) {H : Heap} (sel : List Nat) (hn : sel.Nodup) (hl : sel.length = H0.length) (hlt : ∀ i ∈ sel, i < H.length)
    (hblk : ∀ k : Nat, k < sel.length → H[pi sel H.length k]? = (H0[k]?).map (Blk.ren (pi sel H.length))) {args : List AV} (hargs : args = args0.map (AV.ren (pi sel H.length)))
    (hq : ∀ o H0', Q0 o H0' → Q (o.ren (pi sel H.length)) (patch H sel H0')) : ACalls P f args H Q := by
  intro sn ρ w vs hR hv
  let ρ0 : Env := fun k => if k < sel.length then ρ (pi sel H.length k) else none
  have hρ0 : ∀ k, k < sel.length → ρ0 k = ρ (pi sel H.length k) := fun k hk => by simp only [ρ0]; rw [if_pos hk]
  have hinjsel : ∀ k k', k < sel.length → k' < sel.length → pi sel H.length k = pi sel H.length k' → k = k' := fun k k' hk hk' he => by
    have h1 := pi_lt (m := H.length) hk
    have h2 := pi_lt (m := H.length) hk'
    rw [← he] at h2
    exact (List.getElem?_inj hk hn).1 (h1.trans h2.symm)
  have hmem : ∀ k, k < sel.length → pi sel H.length k ∈ sel := fun k hk => List.mem_of_getElem? (pi_lt hk)
  have hup : ∀ r p, ρ0 r = some p → ρ (pi sel H.length r) = some p := fun r p hp => by
    by_cases hk : r < sel.length
    · rw [hρ0 r hk] at hp; exact hp
    · simp only [ρ0, if_neg hk] at hp; cases hp
  have hdown : ∀ x v, VR sn ρ (x.ren (pi sel H.length)) v → VR sn (fun r => ρ (pi sel H.length r)) x v := fun x v h => h.unren rfl (fun _ _ h => h)
  -- numbers that aren't blocks of the callee's stand in no argument: beyond, the caller's environment is empty
  have htop : ∀ r, sel.length ≤ r → ρ (pi sel H.length r) = none := fun r hr => by
    rw [pi_ge hr]; exact hR.top _ (by omega)
  have hown0 : ∀ b, Owned ρ0 H0 b → Owned ρ H b := by
    rintro b ⟨r, blk, p, h1, h2, h3, h4⟩
    have hk : r < sel.length := by rw [hl]; exact (List.getElem?_eq_some_iff.1 h1).1
    exact ⟨pi sel H.length r, blk.ren (pi sel H.length), p, by rw [hblk r hk, h1]; rfl, live_ren.2 h2, by rw [← hρ0 r hk]; exact h3, h4⟩
  have hR0 : Rel sn ρ0 H0 w := by
    refine ⟨hR.gl, hR.snap, fun r blk p h1 h2 h3 => ?_, fun r r' blk blk' p p' h1 h2 h1' h2' h3 h3' he => ?_, fun r hr => ?_⟩
    · have hk : r < sel.length := by rw [hl]; exact (List.getElem?_eq_some_iff.1 h1).1
      rw [hρ0 r hk] at h3
      obtain ⟨g1, obj, g2, g3⟩ := hR.own (pi sel H.length r) (blk.ren (pi sel H.length)) p (by rw [hblk r hk, h1]; rfl) (live_ren.2 h2) h3
      refine ⟨g1, obj, g2, g3.unren (fun q p' hq => ?_)⟩
      by_cases hq' : q < sel.length
      · rw [hρ0 q hq']; exact hq
      · rw [htop q (by omega)] at hq; cases hq
    · have hk : r < sel.length := by rw [hl]; exact (List.getElem?_eq_some_iff.1 h1).1
      have hk' : r' < sel.length := by rw [hl]; exact (List.getElem?_eq_some_iff.1 h1').1
      rw [hρ0 r hk] at h3
      rw [hρ0 r' hk'] at h3'
      exact hinjsel r r' hk hk' (hR.inj _ _ _ _ p p' (by rw [hblk r hk, h1]; rfl) (live_ren.2 h2) (by rw [hblk r' hk', h1']; rfl) (live_ren.2 h2') h3 h3' he)
    · simp only [ρ0]
      rw [if_neg (by omega)]
  have hv0 : VRs sn ρ0 args0 vs.toList := by
    subst hargs
    refine ⟨by simpa using hv.1, fun k x y hx hy => ?_⟩
    have := hv.2 k (x.ren (pi sel H.length)) y (by simp [hx]) hy
    refine this.unren rfl (fun q p' hq => ?_)
    by_cases hq' : q < sel.length
    · rw [hρ0 q hq']; exact hq
    · rw [htop q (by omega)] at hq; cases hq
  refine (hc sn ρ0 w vs hR0 hv0).mono ?_
  rintro e w' ⟨sn', ρ0', H0', out, h1, h2, h3, h4⟩
  have hlen' : sel.length ≤ H0'.length := by rw [hl]; exact h3.len
  let ρ' : Env := fun r => if r < H.length then ρ r else ρ0' (sel.length + (r - H.length))
  have hρlt : ∀ r, r < H.length → ρ' r = ρ r := fun r hr => by simp only [ρ']; rw [if_pos hr]
  have hcomp : ∀ k, ρ' (pi sel H.length k) = ρ0' k := fun k => by
    by_cases hk : k < sel.length
    · have := hlt _ (hmem k hk)
      rw [hρlt _ this, ← hρ0 k hk]
      exact (h3.envlt k (by omega)).symm
    · rw [pi_ge (by omega)]
      simp only [ρ']
      rw [if_neg (by omega)]
      congr 1
      omega
  have hup' : ∀ r p, ρ0' r = some p → ρ' (pi sel H.length r) = some p := fun r p hp => by rw [hcomp]; exact hp
  have hmono : ∀ r p, ρ r = some p → ρ' r = some p := fun r p hp => by
    have : r < H.length := by
      rcases Nat.lt_or_ge r H.length with h | h
      · exact h
      · rw [hR.top r h] at hp; cases hp
    rw [hρlt r this]; exact hp
  have hmaplen : sel.length ≤ (H0'.map (Blk.ren (pi sel H.length))).length := by simpa using hlen'
  have hsm := setMany_get sel H (H0'.map (Blk.ren (pi sel H.length))) hn hmaplen hlt
  have hsl := setMany_length sel H (H0'.map (Blk.ren (pi sel H.length)))
  -- the blocks behind the call: the callee's, or the caller's own that were left alone
  have key : ∀ (r : Nat) blk, (patch H sel H0')[r]? = some blk → (∃ k b, H0'[k]? = some b ∧ blk = b.ren (pi sel H.length) ∧ r = pi sel H.length k) ∨ (r < H.length ∧ r ∉ sel ∧ H[r]? = some blk) := fun r blk hr => by
    unfold patch at hr
    rw [List.getElem?_append, hsl] at hr
    split at hr
    · rename_i hrl
      by_cases hrs : r ∈ sel
      · obtain ⟨k, hk⟩ := List.mem_iff_getElem?.1 hrs
        rw [(hsm r).1 k hk] at hr
        simp only [List.getElem?_map, Option.map_eq_some_iff] at hr
        obtain ⟨b, hb, rfl⟩ := hr
        have hkl := (List.getElem?_eq_some_iff.1 hk).1
        have := pi_lt (m := H.length) hkl
        rw [hk] at this
        injection this with this
        exact .inl ⟨k, b, hb, rfl, this⟩
      · rw [(hsm r).2 hrs] at hr
        exact .inr ⟨hrl, hrs, hr⟩
    · rename_i hrl
      simp only [List.getElem?_map, Option.map_eq_some_iff, List.getElem?_drop] at hr
      obtain ⟨b, hb, rfl⟩ := hr
      refine .inl ⟨sel.length + (r - H.length), b, hb, rfl, ?_⟩
      rw [pi_ge (by omega)]
      omega
  have hnotown : ∀ (r : Nat) blk p, r ∉ sel → H[r]? = some blk → blk.live → ρ r = some p → ¬ Owned ρ0 H0 p.b := by
    rintro r blk p hrs hr hlv hp ⟨k, b, q, g1, g2, g3, g4⟩
    have hk : k < sel.length := by rw [hl]; exact (List.getElem?_eq_some_iff.1 g1).1
    rw [hρ0 k hk] at g3
    have := hR.inj _ _ _ _ q p (by rw [hblk k hk, g1]; rfl) (live_ren.2 g2) hr hlv g3 hp g4
    rw [← this] at hrs
    exact hrs (hmem k hk)
  have hkeepH : ∀ (r : Nat) blk p, r ∉ sel → H[r]? = some blk → blk.live → ρ r = some p → w'.heap[p.b]? = w.heap[p.b]? ∧ sn' p.b = none := fun r blk p hrs hr hlv hp => by
    have h5 := hnotown r blk p hrs hr hlv hp
    have hlt' := hR.lt hr hlv hp
    refine ⟨h3.frame _ hlt' h5, ?_⟩
    have h6 := (hR.own r blk p hr hlv hp).1
    by_cases e : sn' p.b = sn p.b
    · rw [e]; exact h6
    · rcases h3.newsnap _ e with h7 | h7
      · omega
      · exact absurd h7 h5
  have hnewown : ∀ (k : Nat) b p, H0'[k]? = some b → b.live → ρ0' k = some p → w.heap.size ≤ p.b ∨ Owned ρ0 H0 p.b := fun k b p g1 g2 g3 => h3.newown _ ⟨k, b, p, g1, g2, g3, rfl⟩
  refine ⟨sn', ρ', patch H sel H0', out.ren (pi sel H.length), ?_, ?_, ?_, hq _ _ h4⟩
  · cases out with
    | ret v =>
      cases e with
      | returned cv => exact (show VR sn' ρ0' v cv from h1).ren hup'
      | _ => exact h1.elim
    | pan v =>
      cases e with
      | panicked ch =>
        obtain ⟨x, cv, e1, rfl, hx⟩ := h1.pan_inv
        cases e1
        exact hx.ren hup'
      | _ => exact h1.elim
  · refine ⟨h2.gl, h2.snap, fun r blk p hr hlv hp => ?_, fun r r' blk blk' p p' hr hlv hr' hlv' hp hp' he => ?_, fun r hr => ?_⟩
    · rcases key r blk hr with ⟨k, b, hb, rfl, rfl⟩ | ⟨hrl, hrs, hr0⟩
      · rw [hcomp] at hp
        obtain ⟨g1, obj, g2, g3⟩ := h2.own k b p hb (live_ren.1 hlv) hp
        exact ⟨g1, obj, g2, g3.ren hup'⟩
      · rw [hρlt r hrl] at hp
        obtain ⟨g1, obj, g2, g3⟩ := hR.own r blk p hr0 hlv hp
        obtain ⟨k1, k2⟩ := hkeepH r blk p hrs hr0 hlv hp
        exact ⟨k2, obj, by rw [k1]; exact g2, g3.mono h3.snap hmono⟩
    · rcases key r blk hr with ⟨k, b, hb, rfl, rfl⟩ | ⟨hrl, hrs, hr0⟩ <;> rcases key r' blk' hr' with ⟨k', b', hb', rfl, rfl⟩ | ⟨hrl', hrs', hr0'⟩
      · rw [hcomp] at hp hp'
        rw [h2.inj k k' b b' p p' hb (live_ren.1 hlv) hb' (live_ren.1 hlv') hp hp' he]
      · rw [hcomp] at hp
        rw [hρlt _ hrl'] at hp'
        rcases hnewown k b p hb (live_ren.1 hlv) hp with h5 | h5
        · have := hR.lt hr0' hlv' hp'; omega
        · rw [he] at h5; exact absurd h5 (hnotown _ _ _ hrs' hr0' hlv' hp')
      · rw [hcomp] at hp'
        rw [hρlt _ hrl] at hp
        rcases hnewown k' b' p' hb' (live_ren.1 hlv') hp' with h5 | h5
        · have := hR.lt hr0 hlv hp; omega
        · rw [← he] at h5; exact absurd h5 (hnotown _ _ _ hrs hr0 hlv hp)
      · rw [hρlt _ hrl] at hp
        rw [hρlt _ hrl'] at hp'
        exact hR.inj r r' blk blk' p p' hr0 hlv hr0' hlv' hp hp' he
    · unfold patch at hr
      simp only [List.length_append, hsl, List.length_map, List.length_drop] at hr
      simp only [ρ']
      rw [if_neg (by omega)]
      exact h2.top _ (by omega)
  · refine ⟨hmono, hρlt, by unfold patch; simp only [List.length_append, hsl]; omega, h3.snap, h3.below, h3.os, h3.tape, h3.output, fun b hb ho => h3.frame b hb (fun h => ho (hown0 b h)), fun b hb => (h3.newsnap b hb).imp id (hown0 b), fun b ho => ?_⟩
    obtain ⟨r, blk, p, hr, hlv, hp, rfl⟩ := ho
    rcases key r blk hr with ⟨k, b, hb, rfl, rfl⟩ | ⟨hrl, hrs, hr0⟩
    · rw [hcomp] at hp
      exact (hnewown k b p hb (live_ren.1 hlv) hp).imp id (hown0 _)
    · rw [hρlt _ hrl] at hp
      exact .inr ⟨r, blk, p, hr0, hlv, hp, rfl⟩
end Go.AM

set_option linter.unusedVariables false
set_option linter.unusedSimpArgs false
namespace Go.AM

/-! ### which numbers a value names -/
mutual
def AV.lt (m : Nat) : AV → Bool
  | .ptr r _ _ => decide (r < m)
  | .sl r _ _ _ => decide (r < m)
  | .map r => decide (r < m)
  | .chan r => decide (r < m)
  | .yfn r => decide (r < m)
  | .rsl r _ _ _ => decide (r < m)
  | .func _ xs ys => ltL m xs && ltL m ys
  | .iface _ v => AV.lt m v
  | .agg cs => ltL m cs
  | .tuple vs => ltL m vs
  | .any | .bool _ | .int _ _ | .str _ | .nilptr | .cptr _ _ | .view _ _ _ | .nilchan | .nilmap | .nilfunc | .nilif => true
def ltL (m : Nat) : List AV → Bool
  | [] => true
  | x :: xs => AV.lt m x && ltL m xs
end
theorem ltL_get {m : Nat} : ∀ {xs : List AV}, ltL m xs = true → ∀ {k : Nat} {x : AV}, xs[k]? = some x → x.lt m = true
  | [], _, k, x, h => by simp at h
  | y :: ys, hl, k, x, h => by
    simp only [ltL, Bool.and_eq_true] at hl
    cases k with
    | zero => simp at h; subst h; exact hl.1
    | succ k => exact ltL_get hl.2 (by simpa using h)
theorem ltL_all {m : Nat} : ∀ {xs : List AV}, (∀ x ∈ xs, x.lt m = true) → ltL m xs = true
  | [], _ => rfl
  | y :: ys, h => by simp only [ltL, Bool.and_eq_true]; exact ⟨h y (by simp), ltL_all (fun x hx => h x (by simp [hx]))⟩
def Ch.lt (m : Nat) : Ch → Bool
  | .nil => true
  | .put s _ v => s.lt m && v.lt m
theorem Ch.get_lt {m : Nat} : ∀ {s : Ch}, s.lt m = true → ∀ t, (s.get t).lt m = true
  | .nil, _, t => rfl
  | .put s d v, h, t => by
    simp only [Ch.lt, Bool.and_eq_true] at h
    simp only [Ch.get]
    split
    · exact h.2
    · exact Ch.get_lt h.1 t
/-- A block names only blocks below m. -/
def Blk.lt (m : Nat) : Blk → Prop
  | .dead => True
  | .rows _ xs => ∀ row ∈ xs, ltL m row = true
  | .amap es => ∀ e ∈ es, e.2.lt m = true
  | .raw _ => True
  | .lrec _ _ s => s.lt m = true

theorem VR.cut {sn : Snap} {ρ : Env} {x : AV} {v : Value} (h : VR sn ρ x v) : ∀ {m : Nat} {ρ' : Env}, x.lt m = true → (∀ r p, r < m → ρ r = some p → ρ' r = some p) → VR sn ρ' x v := by
  induction h with
  | any => intro _ _ _ _; exact .any _ _
  | bool => intro _ _ _ _; exact .bool _ _
  | int => intro _ _ _ _; exact .int _ _ _
  | str => intro _ _ _ _; exact .str _ _
  | nilptr => intro _ _ _ _; exact .nilptr _
  | ptr ρ r i j p h => intro m ρ' hm hr; simp only [AV.lt, decide_eq_true_eq] at hm; exact .ptr _ _ _ _ _ (hr _ _ hm h)
  | cptr ρ row j b o vs hc ho hr ih => intro _ _ _ _; exact .cptr _ _ _ b o vs hc ho hr
  | view ρ full sz xs a b o c vs hl hm hf ha hz hc ho hr ih => intro _ _ _ _; exact .view _ _ _ _ a b o c vs hl hm hf ha hz hc ho hr
  | sl ρ r off len c cap ad p h ha hl hm hn hc => intro m ρ' hlt hr; simp only [AV.lt, decide_eq_true_eq] at hlt; exact .sl _ _ _ _ _ _ ad p (hr _ _ hlt h) ha hl hm hn hc
  | sl0 ρ r off cap a hc => intro _ _ _ _; exact .sl0 _ _ _ _ a hc
  | nilchan => intro _ _ _ _; exact .nilchan _
  | chan ρ r p h => intro m ρ' hm hr; simp only [AV.lt, decide_eq_true_eq] at hm; exact .chan _ _ p (hr _ _ hm h)
  | yfn ρ r p h => intro m ρ' hm hr; simp only [AV.lt, decide_eq_true_eq] at hm; exact .yfn _ _ p (hr _ _ hm h)
  | rsl ρ r i j len p h hm' => intro m ρ' hm hr; simp only [AV.lt, decide_eq_true_eq] at hm; exact .rsl _ _ _ _ _ p (hr _ _ hm h) hm'
  | nilmap => intro _ _ _ _; exact .nilmap _
  | map ρ r p h => intro m ρ' hm hr; simp only [AV.lt, decide_eq_true_eq] at hm; exact .map _ _ p (hr _ _ hm h)
  | nilfunc => intro _ _ _ _; exact .nilfunc _
  | func ρ fn xs ys us vs hu hv h1 h2 ih1 ih2 =>
    intro m ρ' hm hr
    simp only [AV.lt, Bool.and_eq_true] at hm
    exact .func _ _ _ _ _ _ hu hv (fun k x y hx hy => ih1 k x y hx hy (ltL_get hm.1 hx) hr) (fun k x y hx hy => ih2 k x y hx hy (ltL_get hm.2 hx) hr)
  | nilif => intro _ _ _ _; exact .nilif _
  | iface ρ t x y h ih => intro m ρ' hm hr; simp only [AV.lt] at hm; exact .iface _ _ _ _ (ih hm hr)
  | agg ρ xs ys hs' h ih => intro m ρ' hm hr; simp only [AV.lt] at hm; exact .agg _ _ _ hs' (fun k x y hx hy => ih k x y hx hy (ltL_get hm hx) hr)
  | tuple ρ xs ys hs' h ih => intro m ρ' hm hr; simp only [AV.lt] at hm; exact .tuple _ _ _ hs' (fun k x y hx hy => ih k x y hx hy (ltL_get hm hx) hr)

theorem BlkR.cut {sn : Snap} {ρ ρ' : Env} {m : Nat} {p : Place} {b : Blk} {o : Obj} (h : BlkR sn ρ p b o) (hm : b.lt m) (hr : ∀ r p, r < m → ρ r = some p → ρ' r = some p) : BlkR sn ρ' p b o := by
  cases b with
  | dead => trivial
  | rows sz xs =>
    cases o <;> simp only [BlkR] at h ⊢
    obtain ⟨h1, h2, h3, h4, h5, h6⟩ := h
    refine ⟨h1, h2, h3, h4, fun i row hi j x hj => ?_, h6⟩
    obtain ⟨v, e1, e2, e3⟩ := h5 i row hi j x hj
    exact ⟨v, e1, e2, e3.cut (ltL_get (hm row (List.mem_of_getElem? hi)) hj) hr⟩
  | amap es =>
    cases o <;> simp only [BlkR] at h ⊢
    exact ⟨h.1, fun k x q hx hq => ⟨(h.2 k x q hx hq).1, (h.2 k x q hx hq).2.cut (hm x (List.mem_of_getElem? hx)) hr⟩⟩
  | raw q => exact h
  | lrec q n s =>
    cases o <;> simp only [BlkR] at h ⊢
    exact ⟨h.1, fun t => (h.2.1 t).cut (Ch.get_lt hm t) hr, h.2.2⟩

/-- The blocks from m on are forgotten. -/
theorem Rel.take {sn : Snap} {ρ : Env} {H : Heap} {w : World} (h : Rel sn ρ H w) {m : Nat} (hb : ∀ b ∈ H.take m, b.lt m) : Rel sn (fun r => if r < m then ρ r else none) (H.take m) w := by
  have hr : ∀ r p, r < m → ρ r = some p → (fun r => if r < m then ρ r else none) r = some p := fun r p hm hp => by simp only [if_pos hm]; exact hp
  have key : ∀ (r : Nat) b, (H.take m)[r]? = some b → r < m ∧ H[r]? = some b := fun r b hb => by
    rw [List.getElem?_take] at hb
    split at hb
    · exact ⟨by assumption, hb⟩
    · cases hb
  refine ⟨h.gl, h.snap, fun r blk p h1 h2 h3 => ?_, fun r r' blk blk' p p' h1 h2 h1' h2' h3 h3' he => ?_, fun r hr' => ?_⟩
  · obtain ⟨k1, k2⟩ := key r blk h1
    simp only [if_pos k1] at h3
    obtain ⟨g1, obj, g2, g3⟩ := h.own r blk p k2 h2 h3
    exact ⟨g1, obj, g2, g3.cut (hb blk (List.mem_of_getElem? h1)) hr⟩
  · obtain ⟨k1, k2⟩ := key r blk h1
    obtain ⟨k1', k2'⟩ := key r' blk' h1'
    simp only [if_pos k1] at h3
    simp only [if_pos k1'] at h3'
    exact h.inj r r' blk blk' p p' k2 h2 k2' h2' h3 h3' he
  · by_cases e : r < m
    · simp only [if_pos e]
      refine h.top r ?_
      simp only [List.length_take] at hr'
      omega
    · simp only [if_neg e]

theorem owned_take {ρ : Env} {H : Heap} {m b : Nat} (h : Owned (fun r => if r < m then ρ r else none) (H.take m) b) : Owned ρ H b := by
  obtain ⟨r, blk, p, h1, h2, h3, h4⟩ := h
  rw [List.getElem?_take] at h1
  split at h1
  · rename_i hlt
    simp only [if_pos hlt] at h3
    exact ⟨r, blk, p, h1, h2, h3, h4⟩
  · cases h1

/-- What a call leaves behind is forgotten. -/
theorem ACalls.gc {P : Program} {f : FuncId} {args : List AV} {H : Heap} {Q : CQ} (m : Nat) (hm : H.length ≤ m)
    (h : ACalls P f args H (fun o H' => m ≤ H'.length ∧ (match o with | .ret v => v.lt m = true | .pan v => v.lt m = true) ∧ (∀ b ∈ H'.take m, b.lt m) ∧ Q o (H'.take m))) : ACalls P f args H Q := by
  intro sn ρ w vs hR hv
  refine (h sn ρ w vs hR hv).mono ?_
  rintro e w' ⟨sn', ρ', H', out, h1, h2, h3, h0, h4, h5, h6⟩
  have hr : ∀ r p, r < m → ρ' r = some p → (fun r => if r < m then ρ' r else none) r = some p := fun r p hm hp => by simp only [if_pos hm]; exact hp
  have hlt : ∀ r p, ρ r = some p → r < H.length := fun r p hp => by
    rcases Nat.lt_or_ge r H.length with h | h
    · exact h
    · rw [hR.top r h] at hp; cases hp
  refine ⟨sn', _, H'.take m, out, ?_, h2.take h5, ?_, h6⟩
  · cases out with
    | ret v =>
      cases e with
      | returned cv => exact (show VR sn' ρ' v cv from h1).cut h4 hr
      | _ => exact h1.elim
    | pan v =>
      cases e with
      | panicked ch =>
        obtain ⟨x, cv, e1, rfl, hx⟩ := h1.pan_inv
        cases e1
        exact hx.cut h4 hr
      | _ => exact h1.elim
  · refine ⟨fun r p hp => hr r p (Nat.lt_of_lt_of_le (hlt r p hp) hm) (h3.env r p hp), fun r hr' => ?_, by simp; omega, h3.snap, h3.below, h3.os, h3.tape, h3.output, h3.frame, h3.newsnap, fun b hb => h3.newown b (owned_take hb)⟩
    simp only [if_pos (Nat.lt_of_lt_of_le hr' hm)]
    exact h3.envlt r hr'

/-! ### memory that never changes again -/
/-- No numbers. -/
abbrev AV.pure (x : AV) : Bool := x.lt 0
theorem VR.pure {sn : Snap} {ρ ρ' : Env} {x : AV} {v : Value} (h : VR sn ρ x v) (hp : x.pure = true) : VR sn ρ' x v := h.cut hp (fun r p hr => absurd hr (Nat.not_lt_zero _))

def snapPut (sn : Snap) (b : Nat) (o : Obj) : Snap := fun x => if x = b then some o else sn x
theorem snapPut_mono {sn : Snap} {b : Nat} {o : Obj} (h : sn b = none) : ∀ x q, sn x = some q → snapPut sn b o x = some q := fun x q hq => by
  simp only [snapPut]
  split
  · rename_i e; subst e; rw [h] at hq; cases hq
  · exact hq

mutual
/-- Slices of block r are slices of memory that never changes. -/
def AV.fz (r sz : Nat) (xs : List (List AV)) : AV → AV
  | .sl q off len cap => if q = r then .view false sz ((xs.drop off).take len) else .sl q off len cap
  | .func fn as bs => .func fn (fzL r sz xs as) (fzL r sz xs bs)
  | .iface t v => .iface t (AV.fz r sz xs v)
  | .agg cs => .agg (fzL r sz xs cs)
  | .tuple vs => .tuple (fzL r sz xs vs)
  | .ptr q i j => .ptr q i j | .map q => .map q | .chan q => .chan q | .yfn q => .yfn q | .rsl q i j n => .rsl q i j n
  | .any => .any | .bool b => .bool b | .int k n => .int k n | .str s => .str s | .nilptr => .nilptr
  | .cptr row j => .cptr row j | .view f z xs => .view f z xs | .nilchan => .nilchan | .nilmap => .nilmap | .nilfunc => .nilfunc | .nilif => .nilif
def fzL (r sz : Nat) (xs : List (List AV)) : List AV → List AV
  | [] => []
  | y :: ys => AV.fz r sz xs y :: fzL r sz xs ys
end
theorem fzL_map (r sz : Nat) (xs : List (List AV)) : ∀ (ys : List AV), fzL r sz xs ys = ys.map (AV.fz r sz xs)
  | [] => by simp [fzL]
  | y :: ys => by simp [fzL, fzL_map r sz xs ys]
theorem one_fz (r sz : Nat) (xs : List (List AV)) (x : AV) : (x.fz r sz xs).one = x.one := by
  cases x with
  | sl q off len cap =>
    simp only [AV.fz]
    by_cases h : q = r <;> simp [h, AV.one]
  | _ => simp [AV.fz, AV.one]
def Ch.fz (r sz : Nat) (xs : List (List AV)) : Ch → Ch
  | .nil => .nil
  | .put s d v => .put (s.fz r sz xs) d (v.fz r sz xs)
theorem Ch.get_fz (r sz : Nat) (xs : List (List AV)) : ∀ (s : Ch) (t : Nat), (s.fz r sz xs).get t = (s.get t).fz r sz xs
  | .nil, t => by simp [Ch.fz, Ch.get, AV.fz]
  | .put s d v, t => by
    simp only [Ch.fz, Ch.get, Ch.get_fz r sz xs s]
    split <;> rfl
def Blk.fz (r sz : Nat) (xs : List (List AV)) : Blk → Blk
  | .dead => .dead
  | .rows z ys => .rows z (ys.map fun row => row.map (AV.fz r sz xs))
  | .amap es => .amap (es.map fun e => (e.1, e.2.fz r sz xs))
  | .raw q => .raw q
  | .lrec q n s => .lrec q n (s.fz r sz xs)

/-- How a slice reads, once its block never changes again. -/
theorem fz_sl {sn : Snap} {ρ : Env} {H : Heap} {w : World} (hR : Rel sn ρ H w) {r sz : Nat} {xs : List (List AV)} (hr : H[r]? = some (.rows sz xs)) (hpu : ∀ row ∈ xs, ∀ x ∈ row, x.pure = true) {sn' : Snap} (hs : ∀ b o, sn b = some o → sn' b = some o)
    (hput : ∀ p, ρ r = some p → sn' p.b = w.heap[p.b]?) {off len : Nat} {cap : Option Nat} {v : Value} (hfit : off + len ≤ xs.length ∨ len = 0) (h : VR sn ρ (.sl r off len cap) v) (ρ' : Env) : VR sn' ρ' (.view false sz ((xs.drop off).take len)) v := by
  obtain ⟨a, c, rfl, hl, hm, hcc, hcase⟩ := h.sl_inv
  by_cases h0 : len = 0
  · subst h0
    have e : List.take 0 (List.drop off xs) = [] := by simp
    rw [e]
    exact .view _ false sz [] a 0 0 c (fun _ _ => undef) (by simp) hm (by simp) (by simp) (by simp) (by simp) (by simp) (by simp)
  · rcases hcase with e0 | ⟨p, hp, rfl, hn⟩
    · omega
    have hfit' : off + len ≤ xs.length := hfit.resolve_right h0
    have hlen : ((xs.drop off).take len).length = len := by simp; omega
    obtain ⟨cc, t', fr, h1, h2, h3, h4, h5, h6, h7, h8⟩ := hR.rows hr hp
    have hget : ∀ (i : Nat) row, ((xs.drop off).take len)[i]? = some row → i < len ∧ xs[off + i]? = some row := fun i row hi => by
      have := (List.getElem?_eq_some_iff.1 hi).1
      rw [hlen] at this
      rw [List.getElem?_take, if_pos this, List.getElem?_drop] at hi
      exact ⟨this, hi⟩
    have hsc : ∀ o, scell sn' p.b o = cc[o]? := fun o => by simp [scell, hput p hp, h1]
    have hcell : ∀ (i : Nat) (row : List AV), ((xs.drop off).take len)[i]? = some row → ∀ (j : Nat) x, row[j]? = some x → ∃ v, cc[off * p.sz + (i * sz + j)]? = some v ∧ x.one = true ∧ VR sn ρ x v := fun i row hi j x hj => by
      obtain ⟨v, e1, e2, e3⟩ := h7 _ _ (hget i row hi).2 j x hj
      refine ⟨v, ?_, e2, e3⟩
      rw [← e1, h3]
      congr 1
      rw [Nat.add_mul]
      omega
    have hv := VR.view (sn := sn') ρ' false sz ((xs.drop off).take len) (some ⟨p.b, off * p.sz, none⟩) p.b (off * p.sz) c (fun i j => (cc[off * p.sz + (i * sz + j)]?).getD undef) (by rw [hlen]; exact hl) hm (by simp) (fun _ => rfl) (fun i row hi => h6 _ _ (hget i row hi).2)
      (fun i row hi j x hj => by
        obtain ⟨v, e1, _, _⟩ := hcell i row hi j x hj
        rw [hsc, e1]; rfl)
      (fun i row hi j x hj => by
        obtain ⟨v, e1, e2, _⟩ := hcell i row hi j x hj
        exact e2)
      (fun i row hi j x hj => by
        obtain ⟨v, e1, _, e3⟩ := hcell i row hi j x hj
        rw [e1]
        have hmem := (hget i row hi).2
        exact (e3.mono hs (fun _ _ h => h)).pure (hpu row (List.mem_of_getElem? hmem) x (List.mem_of_getElem? hj)))
    rw [hlen] at hv
    exact hv

mutual
/-- The slices of block r lie within its n elements. -/
def AV.fzOk (r n : Nat) : AV → Prop
  | .sl q off len _ => q = r → off + len ≤ n
  | .func _ as bs => fzOkL r n as ∧ fzOkL r n bs
  | .iface _ v => AV.fzOk r n v
  | .agg cs => fzOkL r n cs
  | .tuple vs => fzOkL r n vs
  | .ptr _ _ _ | .rsl _ _ _ _ | .chan _ | .yfn _ | .nilchan | .map _ | .any | .bool _ | .int _ _ | .str _ | .nilptr | .cptr _ _ | .view _ _ _ | .nilmap | .nilfunc | .nilif => True
def fzOkL (r n : Nat) : List AV → Prop
  | [] => True
  | y :: ys => AV.fzOk r n y ∧ fzOkL r n ys
end
theorem fzOkL_get {r n : Nat} : ∀ {xs : List AV}, fzOkL r n xs → ∀ {k : Nat} {x : AV}, xs[k]? = some x → x.fzOk r n
  | [], _, k, x, h => by simp at h
  | y :: ys, hl, k, x, h => by
    simp only [fzOkL] at hl
    cases k with
    | zero => simp at h; subst h; exact hl.1
    | succ k => exact fzOkL_get hl.2 (by simpa using h)
def Ch.fzOk (r n : Nat) : Ch → Prop
  | .nil => True
  | .put s _ v => s.fzOk r n ∧ v.fzOk r n
theorem Ch.get_fzOk {r n : Nat} : ∀ {s : Ch}, s.fzOk r n → ∀ t, (s.get t).fzOk r n
  | .nil, _, t => by simp [Ch.get, AV.fzOk]
  | .put s d v, h, t => by
    simp only [Ch.fzOk] at h
    simp only [Ch.get]
    split
    · exact h.2
    · exact Ch.get_fzOk h.1 t
def Blk.fzOk (r n : Nat) : Blk → Prop
  | .dead => True
  | .rows _ ys => ∀ row ∈ ys, fzOkL r n row
  | .amap es => ∀ e ∈ es, e.2.fzOk r n
  | .raw _ => True
  | .lrec _ _ s => s.fzOk r n

theorem VR.fz {sn : Snap} {ρ0 : Env} {H : Heap} {w : World} (hR : Rel sn ρ0 H w) {r sz : Nat} {xs : List (List AV)} (hr : H[r]? = some (.rows sz xs)) (hpu : ∀ row ∈ xs, ∀ x ∈ row, x.pure = true) {sn' : Snap} (hs : ∀ b o, sn b = some o → sn' b = some o)
    (hput : ∀ p, ρ0 r = some p → sn' p.b = w.heap[p.b]?) {ρ : Env} {x : AV} {v : Value} (h : VR sn ρ x v) : ρ = ρ0 → x.fzOk r xs.length → VR sn' ρ (x.fz r sz xs) v := by
  induction h with
  | any => intro _ _; simp only [AV.fz]; exact .any _ _
  | bool => intro _ _; simp only [AV.fz]; exact .bool _ _
  | int => intro _ _; simp only [AV.fz]; exact .int _ _ _
  | str => intro _ _; simp only [AV.fz]; exact .str _ _
  | nilptr => intro _ _; simp only [AV.fz]; exact .nilptr _
  | ptr ρ q i j p h => intro _ _; simp only [AV.fz]; exact .ptr _ _ _ _ _ h
  | cptr ρ row j b o vs hc ho hr' ih => intro _ _; simp only [AV.fz]; exact (VR.cptr _ _ _ b o vs hc ho hr').mono hs (fun _ _ h => h)
  | view ρ full z ys a b o c vs hl hm hf ha hz hc ho hr' ih => intro _ _; simp only [AV.fz]; exact (VR.view _ _ _ _ a b o c vs hl hm hf ha hz hc ho hr').mono hs (fun _ _ h => h)
  | sl ρ q off len c cap ad p h ha hl hm hn hc =>
    intro e ok
    subst e
    simp only [AV.fz]
    by_cases hq : q = r
    · rw [if_pos hq]
      subst hq
      exact fz_sl hR hr hpu hs hput (.inl (ok rfl)) (.sl _ _ _ _ _ _ ad p h ha hl hm hn hc) _
    · rw [if_neg hq]
      exact .sl _ _ _ _ _ _ ad p h ha hl hm hn hc
  | sl0 ρ q off cap a hc =>
    intro e ok
    subst e
    simp only [AV.fz]
    by_cases hq : q = r
    · rw [if_pos hq]
      subst hq
      exact fz_sl hR hr hpu hs hput (.inr rfl) (.sl0 _ _ _ _ a hc) _
    · rw [if_neg hq]
      exact .sl0 _ _ _ _ a hc
  | nilchan => intro _ _; simp only [AV.fz]; exact .nilchan _
  | chan ρ q p h => intro _ _; simp only [AV.fz]; exact .chan _ _ p h
  | yfn ρ q p h => intro _ _; simp only [AV.fz]; exact .yfn _ _ p h
  | rsl ρ q i j len p h hm => intro _ _; simp only [AV.fz]; exact .rsl _ _ _ _ _ p h hm
  | nilmap => intro _ _; simp only [AV.fz]; exact .nilmap _
  | map ρ q p h => intro _ _; simp only [AV.fz]; exact .map _ _ p h
  | nilfunc => intro _ _; simp only [AV.fz]; exact .nilfunc _
  | func ρ fn as bs us vs hu hv h1 h2 ih1 ih2 =>
    intro e ok
    simp only [AV.fzOk] at ok
    simp only [AV.fz, fzL_map]
    refine .func _ _ _ _ _ _ (by simpa using hu) (by simpa using hv) (fun k x y hx hy => ?_) (fun k x y hx hy => ?_)
    · simp only [List.getElem?_map, Option.map_eq_some_iff] at hx
      obtain ⟨z, hz, rfl⟩ := hx
      exact ih1 k z y hz hy e (fzOkL_get ok.1 hz)
    · simp only [List.getElem?_map, Option.map_eq_some_iff] at hx
      obtain ⟨z, hz, rfl⟩ := hx
      exact ih2 k z y hz hy e (fzOkL_get ok.2 hz)
  | nilif => intro _ _; simp only [AV.fz]; exact .nilif _
  | iface ρ t x y h ih => intro e ok; simp only [AV.fzOk] at ok; simp only [AV.fz]; exact .iface _ _ _ _ (ih e ok)
  | agg ρ cs ys hs' h ih =>
    intro e ok
    simp only [AV.fzOk] at ok
    simp only [AV.fz, fzL_map]
    refine .agg _ _ _ (by simpa using hs') (fun k x y hx hy => ?_)
    simp only [List.getElem?_map, Option.map_eq_some_iff] at hx
    obtain ⟨z, hz, rfl⟩ := hx
    exact ih k z y hz hy e (fzOkL_get ok hz)
  | tuple ρ cs ys hs' h ih =>
    intro e ok
    simp only [AV.fzOk] at ok
    simp only [AV.fz, fzL_map]
    refine .tuple _ _ _ (by simpa using hs') (fun k x y hx hy => ?_)
    simp only [List.getElem?_map, Option.map_eq_some_iff] at hx
    obtain ⟨z, hz, rfl⟩ := hx
    exact ih k z y hz hy e (fzOkL_get ok hz)

/-- A block of known elements never changes again: its slices are views from now on. -/
theorem Rel.freeze {sn : Snap} {ρ : Env} {H : Heap} {w : World} (hR : Rel sn ρ H w) {r sz : Nat} {xs : List (List AV)} (hr : H[r]? = some (.rows sz xs)) (hpu : ∀ row ∈ xs, ∀ x ∈ row, x.pure = true)
    (hok : ∀ b ∈ H.set r .dead, b.fzOk r xs.length) : ∃ sn', Rel sn' ρ ((H.set r .dead).map (Blk.fz r sz xs)) w ∧ Ext sn ρ H w sn' ρ ((H.set r .dead).map (Blk.fz r sz xs)) w ∧
      ∀ x v, x.fzOk r xs.length → VR sn ρ x v → VR sn' ρ (x.fz r sz xs) v := by
  have hlive : (Blk.rows sz xs).live := trivial
  let sn' : Snap := match ρ r with
    | some p => match w.heap[p.b]? with
      | some o => snapPut sn p.b o
      | none => sn
    | none => sn
  have hsn : ∀ p, ρ r = some p → ∃ o, w.heap[p.b]? = some o ∧ sn p.b = none ∧ sn' = snapPut sn p.b o := fun p hp => by
    obtain ⟨g1, o, g2, _⟩ := hR.own r _ p hr hlive hp
    exact ⟨o, g2, g1, by simp only [sn', hp, g2]⟩
  have hsame : ρ r = none → sn' = sn := fun h => by simp only [sn', h]
  have hs : ∀ b o, sn b = some o → sn' b = some o := fun b o hb => by
    cases hp : ρ r with
    | none => rw [hsame hp]; exact hb
    | some p =>
      obtain ⟨o', _, g2, g3⟩ := hsn p hp
      rw [g3]
      exact snapPut_mono g2 b o hb
  have hput : ∀ p, ρ r = some p → sn' p.b = w.heap[p.b]? := fun p hp => by
    obtain ⟨o, g1, _, g3⟩ := hsn p hp
    rw [g3, g1]
    simp [snapPut]
  have hvr : ∀ x v, x.fzOk r xs.length → VR sn ρ x v → VR sn' ρ (x.fz r sz xs) v := fun x v ok h => VR.fz hR hr hpu hs hput h rfl ok
  have key : ∀ (q : Nat) blk, ((H.set r .dead).map (Blk.fz r sz xs))[q]? = some blk → blk.live → ∃ b, q ≠ r ∧ H[q]? = some b ∧ blk = b.fz r sz xs ∧ b.live ∧ b.fzOk r xs.length := fun q blk hq hl => by
    simp only [List.getElem?_map, Option.map_eq_some_iff] at hq
    obtain ⟨b, hb, rfl⟩ := hq
    have hm := List.mem_of_getElem? hb
    rcases getElem?_set_list hb with ⟨_, rfl⟩ | ⟨h1, h2⟩
    · exact hl.elim
    · refine ⟨b, h1, h2, rfl, ?_, hok b hm⟩
      cases b <;> first | exact hl | trivial
  have hsnb : ∀ q b p, q ≠ r → H[q]? = some b → b.live → ρ q = some p → sn' p.b = sn p.b := fun q b p hq hb hl hp => by
    cases hpr : ρ r with
    | none => rw [hsame hpr]
    | some p' =>
      obtain ⟨o, _, _, g3⟩ := hsn p' hpr
      rw [g3]
      simp only [snapPut]
      rw [if_neg]
      intro e
      exact hq (hR.inj q r b _ p p' hb hl hr hlive hp hpr e)
  refine ⟨sn', ⟨hR.gl.mono hs, fun b o hb => ?_, fun q blk p h1 h2 h3 => ?_, fun q q' blk blk' p p' h1 h2 h1' h2' h3 h3' he => ?_, fun q hq => hR.top q (by simpa using hq)⟩, ?_, hvr⟩
  · cases hp : ρ r with
    | none => rw [hsame hp] at hb; exact hR.snap b o hb
    | some p =>
      obtain ⟨o', g1, g2, g3⟩ := hsn p hp
      rw [g3] at hb
      simp only [snapPut] at hb
      split at hb
      · rename_i e; subst e; injection hb with hb; subst hb; exact g1
      · exact hR.snap b o hb
  · obtain ⟨b, k1, k2, rfl, k4, k5⟩ := key q blk h1 h2
    obtain ⟨g1, obj, g2, g3⟩ := hR.own q b p k2 k4 h3
    refine ⟨by rw [hsnb q b p k1 k2 k4 h3]; exact g1, obj, g2, ?_⟩
    cases b with
    | dead => trivial
    | rows z ys =>
      cases obj <;> simp only [BlkR, Blk.fz] at g3 ⊢
      obtain ⟨e1, e2, e3, e4, e5, e6⟩ := g3
      refine ⟨e1, e2, by simpa using e3, fun i row hi => ?_, fun i row hi j x hj => ?_, e6⟩
      · simp only [List.getElem?_map, Option.map_eq_some_iff] at hi
        obtain ⟨row0, hrow, rfl⟩ := hi
        simpa using e4 i row0 hrow
      · simp only [List.getElem?_map, Option.map_eq_some_iff] at hi
        obtain ⟨row0, hrow, rfl⟩ := hi
        simp only [List.getElem?_map, Option.map_eq_some_iff] at hj
        obtain ⟨y, hy, rfl⟩ := hj
        obtain ⟨v, f1, f2, f3⟩ := e5 i row0 hrow j y hy
        exact ⟨v, f1, by rw [one_fz]; exact f2, hvr y v (fzOkL_get (k5 row0 (List.mem_of_getElem? hrow)) hy) f3⟩
    | amap es =>
      cases obj <;> simp only [BlkR, Blk.fz] at g3 ⊢
      refine ⟨by simpa using g3.1, fun k x m hx hm => ?_⟩
      simp only [List.getElem?_map, Option.map_eq_some_iff] at hx
      obtain ⟨y, hy, rfl⟩ := hx
      exact ⟨(g3.2 k y m hy hm).1.mono hs (fun _ _ h => h), hvr y.2 m.val (k5 y (List.mem_of_getElem? hy)) (g3.2 k y m hy hm).2⟩
    | raw q => exact g3
    | lrec q n s =>
      cases obj <;> simp only [BlkR, Blk.fz] at g3 ⊢
      exact ⟨g3.1, fun t => by rw [Ch.get_fz]; exact hvr _ _ (Ch.get_fzOk k5 t) (g3.2.1 t), g3.2.2⟩
  · obtain ⟨b, k1, k2, rfl, k4, _⟩ := key q blk h1 h2
    obtain ⟨b', k1', k2', rfl, k4', _⟩ := key q' blk' h1' h2'
    exact hR.inj q q' b b' p p' k2 k4 k2' k4' h3 h3' he
  · refine ⟨fun _ _ h => h, fun _ _ => rfl, by simp, hs, Nat.le_refl _, rfl, rfl, rfl, fun _ _ _ => rfl, fun b hb => ?_, fun b ho => ?_⟩
    · cases hp : ρ r with
      | none => rw [hsame hp] at hb; exact absurd rfl hb
      | some p =>
        obtain ⟨o', g1, g2, g3⟩ := hsn p hp
        rw [g3] at hb
        simp only [snapPut] at hb
        split at hb
        · rename_i e; subst e; exact .inr ⟨r, _, p, hr, hlive, hp, rfl⟩
        · exact absurd rfl hb
    · obtain ⟨q, blk, p, h1, h2, h3, h4⟩ := ho
      obtain ⟨b', _, k2, rfl, k4, _⟩ := key q blk h1 h2
      exact .inr ⟨q, b', p, k2, k4, h3, h4⟩

def Out.fz (r sz : Nat) (xs : List (List AV)) : Out → Out
  | .ret v => .ret (v.fz r sz xs)
  | .pan v => .pan (v.fz r sz xs)
def Out.fzOk (r n : Nat) : Out → Prop
  | .ret v => v.fzOk r n
  | .pan v => v.fzOk r n
/-- A call's block r never changes again. -/
theorem ACalls.fz {P : Program} {f : FuncId} {args : List AV} {H : Heap} {Q : CQ} (r : Nat)
    (h : ACalls P f args H (fun o H' => ∃ sz xs, H'[r]? = some (.rows sz xs) ∧ (∀ row ∈ xs, ∀ x ∈ row, x.pure = true) ∧ o.fzOk r xs.length ∧ (∀ b ∈ H'.set r .dead, b.fzOk r xs.length) ∧ Q (o.fz r sz xs) ((H'.set r .dead).map (Blk.fz r sz xs)))) : ACalls P f args H Q := by
  intro sn ρ w vs hR hv
  refine (h sn ρ w vs hR hv).mono ?_
  rintro e w' ⟨sn', ρ', H', out, h1, h2, h3, sz, xs, h4, h5, h6, h7, h8⟩
  obtain ⟨sn2, g1, g2, g3⟩ := h2.freeze h4 h5 h7
  refine ⟨sn2, ρ', _, out.fz r sz xs, ?_, g1, h3.trans g2, h8⟩
  cases out with
  | ret v =>
    cases e with
    | returned cv => exact g3 _ _ h6 h1
    | _ => exact h1.elim
  | pan v =>
    cases e with
    | panicked ch =>
      obtain ⟨x, cv, e1, rfl, hx⟩ := h1.pan_inv
      cases e1
      exact g3 _ _ h6 hx
    | _ => exact h1.elim
end Go.AM

set_option linter.unusedVariables false
set_option linter.unusedSimpArgs false
namespace Go.AM

/-- The state (s, H) may be taken for (s', H'). -/
def Wk (B n : Nat) (s : Ch) (H : Heap) (s' : Ch) (H' : Heap) : Prop :=
  ∀ (sn : Snap) (ρ : Env) (w : World) (tmps : Array Value), B ≤ H.length → Rel sn ρ H w → SR sn ρ n s tmps → ∃ sn' ρ', Rel sn' ρ' H' w ∧ SR sn' ρ' n s' tmps ∧ ExtB B sn ρ H w sn' ρ' H' w

theorem Wk.refl (B n : Nat) (s : Ch) (H : Heap) : Wk B n s H s H := fun sn ρ w tmps hB hR hs => ⟨sn, ρ, hR, hs, .refl hB⟩
theorem Wk.trans {B n : Nat} {s s1 s2 : Ch} {H H1 H2 : Heap} (a : Wk B n s H s1 H1) (b : Wk B n s1 H1 s2 H2) : Wk B n s H s2 H2 := fun sn ρ w tmps hB hR hs => by
  obtain ⟨sn1, ρ1, h1, h2, h3⟩ := a sn ρ w tmps hB hR hs
  obtain ⟨sn2, ρ2, g1, g2, g3⟩ := b sn1 ρ1 w tmps h3.len h1 h2
  exact ⟨sn2, ρ2, g1, g2, h3.trans g3⟩

theorem SWp.wk {P : Program} {n : Nat} {D : Fx} {c : Code} {Q : XQ} {s s' : Ch} {H H' : Heap} (hw : Wk D.B n s H s' H') (h : SWp P n D c Q s' H') : SWp P n D c Q s H := by
  intro ro sn ρ w a hR hs hd hB
  obtain ⟨sn1, ρ1, h1, h2, h3⟩ := hw sn ρ w a.tmps hB hR hs
  refine wpIn_mono (h ro sn1 ρ1 w a h1 h2 hd h3.len) ?_
  rintro e a' w' ⟨sn', ρ', H'', s'', x, g1, g2, g3, g4, g5, g6⟩
  exact ⟨sn', ρ', H'', s'', x, g1, g2, g3, g4, h3.trans g5, g6⟩

/-- What is left of the slots. -/
def wkS : Ch → Ch → Prop
  | .nil, _ => True
  | .put s' t v, s => (v = .any ∨ s.get t = v) ∧ wkS s' s
theorem wkS_get {s : Ch} : ∀ {s' : Ch}, wkS s' s → ∀ t, s'.get t = .any ∨ s.get t = s'.get t
  | .nil, _, t => .inl rfl
  | .put s' d v, h, t => by
    simp only [wkS] at h
    simp only [Ch.get]
    by_cases e : t = d
    · subst e; rw [if_pos rfl]; exact h.1
    · rw [if_neg e]; exact wkS_get h.2 t
theorem Wk.slots {B n : Nat} {s s' : Ch} {H : Heap} (h : wkS s' s) : Wk B n s H s' H := fun sn ρ w tmps hB hR hs =>
  ⟨sn, ρ, hR, ⟨hs.size, fun t => by
    rcases wkS_get h t with e | e
    · rw [e]; exact .any _ _
    · rw [← e]; exact hs.get t⟩, .refl hB⟩

def chLt (m : Nat) : Ch → Prop
  | .nil => True
  | .put s _ v => v.lt m = true ∧ chLt m s
theorem chLt_get {m : Nat} : ∀ {s : Ch}, chLt m s → ∀ t, (s.get t).lt m = true
  | .nil, _, t => rfl
  | .put s d v, h, t => by
    simp only [Ch.get]
    split
    · exact h.1
    · exact chLt_get h.2 t
theorem Wk.take {B n m : Nat} {s : Ch} {H : Heap} (hm : B ≤ m) (hl : m ≤ H.length) (hs : chLt m s) (hb : ∀ b ∈ H.take m, b.lt m) : Wk B n s H s (H.take m) := fun sn ρ w tmps hB hR hsr => by
  have hr : ∀ r p, r < m → ρ r = some p → (fun r => if r < m then ρ r else none) r = some p := fun r p hm hp => by simp only [if_pos hm]; exact hp
  refine ⟨sn, _, hR.take hb, ⟨hsr.size, fun t => (hsr.get t).cut (chLt_get hs t) hr⟩, ⟨fun r hr => ?_, by simp; omega, fun _ _ h => h, Nat.le_refl _, rfl, rfl, rfl, fun _ _ _ => rfl, fun b hb => absurd rfl hb, fun b ho => .inr (owned_take ho)⟩⟩
  simp only [if_pos (Nat.lt_of_lt_of_le hr hm)]
theorem Wk.dead {B n : Nat} {s : Ch} {H : Heap} (r : Nat) : Wk B n s H s (H.set r .dead) := fun sn ρ w tmps hB hR hs => by
  obtain ⟨h1, h2⟩ := hR.drop r
  exact ⟨sn, ρ, h1, hs, h2.b hB⟩

def chOk (r n : Nat) : Ch → Prop
  | .nil => True
  | .put s _ v => v.fzOk r n ∧ chOk r n s
theorem chfz_get {r sz : Nat} {xs : List (List AV)} : ∀ {s : Ch} (t : Nat), (s.fz r sz xs).get t = (s.get t).fz r sz xs
  | .nil, t => by simp [Ch.fz, Ch.get, AV.fz]
  | .put s d v, t => by
    simp only [Ch.fz, Ch.get]
    split
    · rfl
    · exact chfz_get t
theorem chOk_get {r n : Nat} : ∀ {s : Ch}, chOk r n s → ∀ t, (s.get t).fzOk r n
  | .nil, _, t => by simp [Ch.get, AV.fzOk]
  | .put s d v, h, t => by
    simp only [Ch.get]
    split
    · exact h.1
    · exact chOk_get h.2 t
theorem Wk.fz {B n r sz : Nat} {xs : List (List AV)} {s : Ch} {H : Heap} (hr : H[r]? = some (.rows sz xs)) (hpu : ∀ row ∈ xs, ∀ x ∈ row, x.pure = true) (hok : ∀ b ∈ H.set r .dead, b.fzOk r xs.length) (hs : chOk r xs.length s) :
    Wk B n s H (s.fz r sz xs) ((H.set r .dead).map (Blk.fz r sz xs)) := fun sn ρ w tmps hB hR hsr => by
  obtain ⟨sn', h1, h2, h3⟩ := hR.freeze hr hpu hok
  exact ⟨sn', ρ, h1, ⟨hsr.size, fun t => by rw [chfz_get]; exact h3 _ _ (chOk_get hs t) (hsr.get t)⟩, h2.b hB⟩

/-- A slice without capacity is one of a new block, which isn't there yet. -/
theorem Wk.nil {B n t z sz : Nat} {s : Ch} {H : Heap} (h : s.get t = .view true z []) : Wk B n s H (s.put t (.sl H.length 0 0 none)) (H ++ [.rows sz []]) := fun sn ρ w tmps hB hR hs => by
  obtain ⟨h1, h2⟩ := hR.ghost (.rows sz [])
  refine ⟨sn, ρ, h1, ⟨hs.size, fun t' => ?_⟩, h2.b hB⟩
  simp only [Ch.get]
  split
  · rename_i e
    subst e
    have := hs.get t'
    rw [h] at this
    obtain ⟨a, b, o, c, vs, he, hl, hm, hf, _⟩ := this.view_inv
    rw [he, hf rfl]
    exact .sl0 _ _ _ _ _ (by simp)
  · exact hs.get t'

theorem rounds_step {P : Program} {n : Nat} {D : Fx} {c : Code} {Q : XQ} {k : Nat} {s : Ch} {H : Heap} (hok : codeOk n c = true) (h : cwp P n D c (thenX (rounds (SWp P n D c) Q k) Q) s H) : rounds (SWp P n D c) Q (k + 1) s H :=
  cwp_sound c hok _ _ _ h
theorem rounds_wk {P : Program} {n : Nat} {D : Fx} {c : Code} {Q : XQ} {k : Nat} {s s' : Ch} {H H' : Heap} (hw : Wk D.B n s H s' H') (h : rounds (SWp P n D c) Q k s' H') : rounds (SWp P n D c) Q k s H := by
  cases k with
  | zero => exact h.elim
  | succ k => exact SWp.wk hw h

/-! ### values without numbers -/
mutual
theorem ren_pure {π : Nat → Nat} : ∀ {x : AV}, x.lt 0 = true → x.ren π = x
  | .ptr r i j, h => by simp [AV.lt] at h
  | .sl r off len cap, h => by simp [AV.lt] at h
  | .map r, h => by simp [AV.lt] at h
  | .chan r, h => by simp [AV.lt] at h
  | .yfn r, h => by simp [AV.lt] at h
  | .rsl r i j len, h => by simp [AV.lt] at h
  | .func fn a b, h => by
    simp only [AV.lt, Bool.and_eq_true] at h
    simp only [AV.ren, renL_pure h.1, renL_pure h.2]
  | .iface t v, h => by
    simp only [AV.lt] at h
    simp only [AV.ren, ren_pure h]
  | .agg cs, h => by
    simp only [AV.lt] at h
    simp only [AV.ren, renL_pure h]
  | .tuple cs, h => by
    simp only [AV.lt] at h
    simp only [AV.ren, renL_pure h]
  | .any, _ => rfl
  | .bool _, _ => rfl
  | .int _ _, _ => rfl
  | .str _, _ => rfl
  | .nilptr, _ => rfl
  | .cptr _ _, _ => rfl
  | .view _ _ _, _ => rfl
  | .nilmap, _ => rfl
  | .nilchan, _ => rfl
  | .nilfunc, _ => rfl
  | .nilif, _ => rfl
theorem renL_pure {π : Nat → Nat} : ∀ {xs : List AV}, ltL 0 xs = true → renL π xs = xs
  | [], _ => rfl
  | x :: xs, h => by
    simp only [ltL, Bool.and_eq_true] at h
    simp only [renL, ren_pure h.1, renL_pure h.2]
end
end Go.AM
