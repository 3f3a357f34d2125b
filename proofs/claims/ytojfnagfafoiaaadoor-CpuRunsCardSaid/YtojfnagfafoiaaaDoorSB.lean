/- cpu: spaces. No condition. -/
import Derived.Test.YtojfnagfafoiaaaDoorSA
set_option maxRecDepth 100000
set_option linter.unusedVariables false
set_option linter.unusedSimpArgs false
namespace Go.Proofs.YtojfnagfafoiaaaDoor
open Go.AM
structure Sp where
  perm : List Int
  byt : List UInt8
def Sp.av (s : Sp) : AV := .agg [.view false 1 (s.perm.map r1), .view false 1 (s.byt.map rb)]
theorem Sp.av_lt (s : Sp) (m : Nat) : s.av.lt m = true := rfl
def okP (p : Int) : Bool := decide (p = 0) || decide (p = 1) || decide (p = 3) || decide (p = 4)
structure Sp.ok (s : Sp) : Prop where
  p32 : s.perm.length ≤ 32
  len : s.byt.length = 64 * s.perm.length
  all : s.perm.all okP = true
instance (s : Sp) : Decidable s.ok := decidable_of_iff (s.perm.length ≤ 32 ∧ s.byt.length = 64 * s.perm.length ∧ s.perm.all okP = true) ⟨fun h => ⟨h.1, h.2.1, h.2.2⟩, fun h => ⟨h.1, h.2, h.3⟩⟩
def Sp.chk (s : Sp) : Int := if s.ok then 0 else 30
theorem permitted_c (p : Int) : ACalls Tryd.prog 54 [iv p] [] (fun o H => o = .ret (.bool (okP p)) ∧ H = []) := by
  refine ACalls.up ?_
  refine ACalls.intro (cs := []) (n := 17) Tryd.func54 rfl rfl rfl (by kernel_rfl) rfl ?_
  generalize hpost : (fun (o : Out) (H : Heap) => o = Out.ret (.bool (okP p)) ∧ H = []) = post
  have fin : ∀ b H, b = okP p → Up 0 post (.ret (.bool b)) H := fun n H e => finv rfl (by rw [← hpost, e]; exact ⟨rfl, rfl⟩) H
  simp only [go_sem,Nat.reduceAdd,Nat.reduceSub,Nat.reduceMul,Nat.reduceEqDiff,Nat.reduceLeDiff,Nat.reduceLT,↓reduceIte,Int.reduceToNat,reduceCtorEq,Int.reduceLT,Int.reduceLE,Int.reduceGT,Int.reduceGE,Int.reduceEq,Int.reduceNe,Int.reduceNeg,Int.reduceAdd,Int.reduceSub]
  repeat' (first | (refine gD_dec (fun hg => ?_) (fun hg => ?_) <;> simp only [go_sem,Nat.reduceAdd,Nat.reduceSub,Nat.reduceMul,Nat.reduceEqDiff,Nat.reduceLeDiff,Nat.reduceLT,↓reduceIte,Int.reduceToNat,reduceCtorEq,Int.reduceLT,Int.reduceLE,Int.reduceGT,Int.reduceGE,Int.reduceEq,Int.reduceNe,Int.reduceNeg,Int.reduceAdd,Int.reduceSub,hg]) | (refine condD_dec (fun hg => ?_) (fun hg => ?_) <;> simp only [go_sem,Nat.reduceAdd,Nat.reduceSub,Nat.reduceMul,Nat.reduceEqDiff,Nat.reduceLeDiff,Nat.reduceLT,↓reduceIte,Int.reduceToNat,reduceCtorEq,Int.reduceLT,Int.reduceLE,Int.reduceGT,Int.reduceGE,Int.reduceEq,Int.reduceNe,Int.reduceNeg,Int.reduceAdd,Int.reduceSub,hg]))
  all_goals exact fin _ _ (by simp [okP, *])
theorem all_step {α : Type} {f : α → Bool} {l : List α} {i : Nat} {y : α} (h : l[i]? = some y) (ha : (l.take i).all f = true) (hy : f y = true) : (l.take (i + 1)).all f = true := by
  rw [List.take_add_one, h]
  simp [ha, hy]
theorem all_not {α : Type} {f : α → Bool} {l : List α} {i : Nat} {y : α} (h : l[i]? = some y) (hy : f y = false) : l.all f ≠ true := fun ha => by
  have := List.all_eq_true.1 ha y (List.mem_of_getElem? h)
  rw [hy] at this
  cases this
theorem mcheck_c (s : Sp) : ACalls Tryd.prog 50 [s.av] [] (fun o H => o = .ret (iv s.chk) ∧ H = []) := by
  refine ACalls.up ?_
  refine ACalls.intro (cs := []) (n := 41) Tryd.func50 rfl rfl rfl (by kernel_rfl) rfl ?_
  generalize hpost : (fun (o : Out) (H : Heap) => o = Out.ret (iv s.chk) ∧ H = []) = post
  have fin : ∀ n H, n = s.chk → Up 0 post (.ret (iv n)) H := fun n H e => finv rfl (by rw [← hpost, e]; exact ⟨rfl, rfl⟩) H
  simp only [go_sem,Nat.reduceAdd,Nat.reduceSub,Nat.reduceMul,Nat.reduceEqDiff,Nat.reduceLeDiff,Nat.reduceLT,↓reduceIte,Int.reduceToNat,reduceCtorEq,Int.reduceLT,Int.reduceLE,Int.reduceGT,Int.reduceGE,Int.reduceEq,Int.reduceNe,Int.reduceNeg,Int.reduceAdd,Int.reduceSub,Sp.av,List.length_map]
  repeat' (first | (refine gD_dec (fun hg => ?_) (fun hg => ?_) <;> simp only [go_sem,Nat.reduceAdd,Nat.reduceSub,Nat.reduceMul,Nat.reduceEqDiff,Nat.reduceLeDiff,Nat.reduceLT,↓reduceIte,Int.reduceToNat,reduceCtorEq,Int.reduceLT,Int.reduceLE,Int.reduceGT,Int.reduceGE,Int.reduceEq,Int.reduceNe,Int.reduceNeg,Int.reduceAdd,Int.reduceSub,hg,List.length_map]) | (refine condD_dec (fun hg => ?_) (fun hg => ?_) <;> simp only [go_sem,Nat.reduceAdd,Nat.reduceSub,Nat.reduceMul,Nat.reduceEqDiff,Nat.reduceLeDiff,Nat.reduceLT,↓reduceIte,Int.reduceToNat,reduceCtorEq,Int.reduceLT,Int.reduceLE,Int.reduceGT,Int.reduceGE,Int.reduceEq,Int.reduceNe,Int.reduceNeg,Int.reduceAdd,Int.reduceSub,hg,List.length_map]))
  · exact fin _ _ (by rw [Sp.chk, if_neg (fun h => by have := h.p32; omega)])
  · rename_i h1
    have h2 := hg
    rw [iw64 (by omega) (by omega)] at h2
    exact fin _ _ (by rw [Sp.chk, if_neg (fun h => by have := h.len; omega)])
  · rename_i h1
    have h2 := hg
    rw [iw64 (by omega) (by omega)] at h2
    refine loop_fam (fun i : Nat => (((Ch.nil.put 20 (.view false 1 (s.perm.map r1))).put 21 (iv s.perm.length)).put 22 (iv i))) (fun _ => [.rows 2 [[.view false 1 (s.perm.map r1), .view false 1 (s.byt.map rb)]]])
      (fun i => s.perm.length - i) (fun i => i ≤ s.perm.length ∧ (s.perm.take i).all okP = true) 0 (by kernel_rfl) ⟨Nat.zero_le _, rfl⟩ (Wk.slots' rfl (by simp [wkS, Ch.get])) ?_
    rintro i ⟨hi, ha⟩ K hK
    simp only [go_sem,Nat.reduceAdd,Nat.reduceSub,Nat.reduceMul,Nat.reduceEqDiff,Nat.reduceLeDiff,Nat.reduceLT,↓reduceIte,Int.reduceToNat,reduceCtorEq,Int.reduceLT,Int.reduceLE,Int.reduceGT,Int.reduceGE,Int.reduceEq,Int.reduceNe,Int.reduceNeg,Int.reduceAdd,Int.reduceSub]
    refine condD_dec (fun hc => ?_) (fun hc => ?_)
    · have hc' : i < s.perm.length := by omega
      obtain ⟨y, hy⟩ := at_lt hc'
      have e1 : iw .i64 ((i : Int) + 1) = ((i + 1 : Nat) : Int) := by rw [iw64] <;> omega
      simp only [go_sem,Nat.reduceAdd,Nat.reduceSub,Nat.reduceMul,Nat.reduceEqDiff,Nat.reduceLeDiff,Nat.reduceLT,↓reduceIte,Int.reduceToNat,reduceCtorEq,Int.reduceLT,Int.reduceLE,Int.reduceGT,Int.reduceGE,Int.reduceEq,Int.reduceNe,Int.reduceNeg,Int.reduceAdd,Int.reduceSub,List.length_map,List.getElem?_map,hy,hc,Int.natCast_nonneg]
      repeat' (first | (refine gD_dec (fun hg => ?_) (fun hg => ?_) <;> simp only [go_sem,Nat.reduceAdd,Nat.reduceSub,Nat.reduceMul,Nat.reduceEqDiff,Nat.reduceLeDiff,Nat.reduceLT,↓reduceIte,Int.reduceToNat,reduceCtorEq,Int.reduceLT,Int.reduceLE,Int.reduceGT,Int.reduceGE,Int.reduceEq,Int.reduceNe,Int.reduceNeg,Int.reduceAdd,Int.reduceSub,hg,List.length_map,e1]) | (refine condD_dec (fun hg => ?_) (fun hg => ?_) <;> simp only [go_sem,Nat.reduceAdd,Nat.reduceSub,Nat.reduceMul,Nat.reduceEqDiff,Nat.reduceLeDiff,Nat.reduceLT,↓reduceIte,Int.reduceToNat,reduceCtorEq,Int.reduceLT,Int.reduceLE,Int.reduceGT,Int.reduceGE,Int.reduceEq,Int.reduceNe,Int.reduceNeg,Int.reduceAdd,Int.reduceSub,hg,List.length_map,e1]))
      case refine_1.refine_1.refine_1.refine_1 => exact fin _ _ (by rw [Sp.chk, if_neg (fun h => all_not hy (by simp [okP, *]) h.all)])
      all_goals exact hK (i + 1) _ _ ⟨hc', all_step hy ha (by simp_all [okP])⟩ (by omega) (Wk.slots' rfl (by simp [wkS, Ch.get]))
    · simp only [go_sem,Nat.reduceAdd,Nat.reduceSub,Nat.reduceMul,Nat.reduceEqDiff,Nat.reduceLeDiff,Nat.reduceLT,↓reduceIte,Int.reduceToNat,reduceCtorEq,Int.reduceLT,Int.reduceLE,Int.reduceGT,Int.reduceGE,Int.reduceEq,Int.reduceNe,Int.reduceNeg,Int.reduceAdd,Int.reduceSub]
      have : i = s.perm.length := by omega
      subst this
      rw [List.take_length] at ha
      exact fin _ _ (by rw [Sp.chk, if_pos ⟨by omega, by omega, ha⟩])
theorem rcheck_c (s : Sp) : ACalls Tryd.prog 20 [s.av] [] (fun o H => o = .ret (iv s.chk) ∧ H = []) := by
  refine ACalls.up ?_
  refine ACalls.intro (cs := []) (n := 32) Tryd.func20 rfl rfl rfl (by kernel_rfl) rfl ?_
  generalize hpost : (fun (o : Out) (H : Heap) => o = Out.ret (iv s.chk) ∧ H = []) = post
  have fin : ∀ n H, n = s.chk → Up 0 post (.ret (iv n)) H := fun n H e => finv rfl (by rw [← hpost, e]; exact ⟨rfl, rfl⟩) H
  simp only [go_sem,Nat.reduceAdd,Nat.reduceSub,Nat.reduceMul,Nat.reduceEqDiff,Nat.reduceLeDiff,Nat.reduceLT,↓reduceIte,Int.reduceToNat,reduceCtorEq,Int.reduceLT,Int.reduceLE,Int.reduceGT,Int.reduceGE,Int.reduceEq,Int.reduceNe,Int.reduceNeg,Int.reduceAdd,Int.reduceSub,Sp.av,List.length_map]
  repeat' (first | (refine gD_dec (fun hg => ?_) (fun hg => ?_) <;> simp only [go_sem,Nat.reduceAdd,Nat.reduceSub,Nat.reduceMul,Nat.reduceEqDiff,Nat.reduceLeDiff,Nat.reduceLT,↓reduceIte,Int.reduceToNat,reduceCtorEq,Int.reduceLT,Int.reduceLE,Int.reduceGT,Int.reduceGE,Int.reduceEq,Int.reduceNe,Int.reduceNeg,Int.reduceAdd,Int.reduceSub,hg,List.length_map]) | (refine condD_dec (fun hg => ?_) (fun hg => ?_) <;> simp only [go_sem,Nat.reduceAdd,Nat.reduceSub,Nat.reduceMul,Nat.reduceEqDiff,Nat.reduceLeDiff,Nat.reduceLT,↓reduceIte,Int.reduceToNat,reduceCtorEq,Int.reduceLT,Int.reduceLE,Int.reduceGT,Int.reduceGE,Int.reduceEq,Int.reduceNe,Int.reduceNeg,Int.reduceAdd,Int.reduceSub,hg,List.length_map]))
  · exact fin _ _ (by rw [Sp.chk, if_neg (fun h => by have := h.p32; omega)])
  · rename_i h1
    have h2 := hg
    rw [iw64 (by omega) (by omega)] at h2
    exact fin _ _ (by rw [Sp.chk, if_neg (fun h => by have := h.len; omega)])
  · rename_i h1
    have h2 := hg
    rw [iw64 (by omega) (by omega)] at h2
    refine loop_fam (fun i : Nat => ((Ch.nil.put 1 (.ptr 0 0 0)).put 3 (iv i))) (fun _ => [.rows 2 [[.view false 1 (s.perm.map r1), .view false 1 (s.byt.map rb)]]])
      (fun i => s.perm.length - i) (fun i => i ≤ s.perm.length ∧ (s.perm.take i).all okP = true) 0 (by kernel_rfl) ⟨Nat.zero_le _, rfl⟩ (Wk.slots' rfl (by simp [wkS, Ch.get])) ?_
    rintro i ⟨hi, ha⟩ K hK
    simp only [go_sem,Nat.reduceAdd,Nat.reduceSub,Nat.reduceMul,Nat.reduceEqDiff,Nat.reduceLeDiff,Nat.reduceLT,↓reduceIte,Int.reduceToNat,reduceCtorEq,Int.reduceLT,Int.reduceLE,Int.reduceGT,Int.reduceGE,Int.reduceEq,Int.reduceNe,Int.reduceNeg,Int.reduceAdd,Int.reduceSub,List.length_map]
    refine condD_dec (fun hc => ?_) (fun hc => ?_)
    · have hc' : i < s.perm.length := by omega
      obtain ⟨y, hy⟩ := at_lt hc'
      have e1 : iw .i64 ((i : Int) + 1) = ((i + 1 : Nat) : Int) := by rw [iw64] <;> omega
      simp only [go_sem,Nat.reduceAdd,Nat.reduceSub,Nat.reduceMul,Nat.reduceEqDiff,Nat.reduceLeDiff,Nat.reduceLT,↓reduceIte,Int.reduceToNat,reduceCtorEq,Int.reduceLT,Int.reduceLE,Int.reduceGT,Int.reduceGE,Int.reduceEq,Int.reduceNe,Int.reduceNeg,Int.reduceAdd,Int.reduceSub,List.length_map,List.getElem?_map,hy,hc,Int.natCast_nonneg]
      refine rK_use (enters_of Tryd.func54 rfl (by decide)) (ACalls.pure_use (permitted_c y) rfl rfl) ?_
      cases hp : okP y
      · simp only [go_sem,Nat.reduceAdd,Nat.reduceSub,Nat.reduceMul,Nat.reduceEqDiff,Nat.reduceLeDiff,Nat.reduceLT,↓reduceIte,Int.reduceToNat,reduceCtorEq,Int.reduceLT,Int.reduceLE,Int.reduceGT,Int.reduceGE,Int.reduceEq,Int.reduceNe,Int.reduceNeg,Int.reduceAdd,Int.reduceSub]
        exact fin _ _ (by rw [Sp.chk, if_neg (fun h => all_not hy hp h.all)])
      · simp only [go_sem,Nat.reduceAdd,Nat.reduceSub,Nat.reduceMul,Nat.reduceEqDiff,Nat.reduceLeDiff,Nat.reduceLT,↓reduceIte,Int.reduceToNat,reduceCtorEq,Int.reduceLT,Int.reduceLE,Int.reduceGT,Int.reduceGE,Int.reduceEq,Int.reduceNe,Int.reduceNeg,Int.reduceAdd,Int.reduceSub,e1]
        exact hK (i + 1) _ _ ⟨hc', all_step hy ha hp⟩ (by omega) (Wk.slots' rfl (by simp [wkS, Ch.get]))
    · simp only [go_sem,Nat.reduceAdd,Nat.reduceSub,Nat.reduceMul,Nat.reduceEqDiff,Nat.reduceLeDiff,Nat.reduceLT,↓reduceIte,Int.reduceToNat,reduceCtorEq,Int.reduceLT,Int.reduceLE,Int.reduceGT,Int.reduceGE,Int.reduceEq,Int.reduceNe,Int.reduceNeg,Int.reduceAdd,Int.reduceSub]
      have : i = s.perm.length := by omega
      subst this
      rw [List.take_length] at ha
      exact fin _ _ (by rw [Sp.chk, if_pos ⟨by omega, by omega, ha⟩])
def Sp.has (s : Sp) (x : Int) : Bool := decide (0 ≤ x) && decide (x < s.byt.length)
theorem has_c (s : Sp) (x : Int) : ACalls Tryd.prog 100 [s.av, iv x] [] (fun o H => o = .ret (.bool (s.has x)) ∧ H = []) := by
  refine ACalls.up ?_
  refine ACalls.intro (cs := []) (n := 14) Tryd.func100 rfl rfl rfl (by kernel_rfl) rfl ?_
  generalize hpost : (fun (o : Out) (H : Heap) => o = Out.ret (.bool (s.has x)) ∧ H = []) = post
  have fin : ∀ b H, b = s.has x → Up 0 post (.ret (.bool b)) H := fun n H e => finv rfl (by rw [← hpost, e]; exact ⟨rfl, rfl⟩) H
  simp only [go_sem,Nat.reduceAdd,Nat.reduceSub,Nat.reduceMul,Nat.reduceEqDiff,Nat.reduceLeDiff,Nat.reduceLT,↓reduceIte,Int.reduceToNat,reduceCtorEq,Int.reduceLT,Int.reduceLE,Int.reduceGT,Int.reduceGE,Int.reduceEq,Int.reduceNe,Int.reduceNeg,Int.reduceAdd,Int.reduceSub,Sp.av]
  repeat' (first | (refine gD_dec (fun hg => ?_) (fun hg => ?_) <;> simp only [go_sem,Nat.reduceAdd,Nat.reduceSub,Nat.reduceMul,Nat.reduceEqDiff,Nat.reduceLeDiff,Nat.reduceLT,↓reduceIte,Int.reduceToNat,reduceCtorEq,Int.reduceLT,Int.reduceLE,Int.reduceGT,Int.reduceGE,Int.reduceEq,Int.reduceNe,Int.reduceNeg,Int.reduceAdd,Int.reduceSub,hg,List.length_map]) | (refine condD_dec (fun hg => ?_) (fun hg => ?_) <;> simp only [go_sem,Nat.reduceAdd,Nat.reduceSub,Nat.reduceMul,Nat.reduceEqDiff,Nat.reduceLeDiff,Nat.reduceLT,↓reduceIte,Int.reduceToNat,reduceCtorEq,Int.reduceLT,Int.reduceLE,Int.reduceGT,Int.reduceGE,Int.reduceEq,Int.reduceNe,Int.reduceNeg,Int.reduceAdd,Int.reduceSub,hg,List.length_map]))
  all_goals exact fin _ _ (by simp [Sp.has, *])
theorem inside_c (s : Sp) (x : Int) : ACalls Tryd.prog 91 [s.av, iv x] [] (fun o H => o = .ret (.bool (s.has x)) ∧ H = []) := by
  refine ACalls.up ?_
  refine ACalls.intro (cs := []) (n := 14) Tryd.func91 rfl rfl rfl (by kernel_rfl) rfl ?_
  generalize hpost : (fun (o : Out) (H : Heap) => o = Out.ret (.bool (s.has x)) ∧ H = []) = post
  have fin : ∀ b H, b = s.has x → Up 0 post (.ret (.bool b)) H := fun n H e => finv rfl (by rw [← hpost, e]; exact ⟨rfl, rfl⟩) H
  simp only [go_sem,Nat.reduceAdd,Nat.reduceSub,Nat.reduceMul,Nat.reduceEqDiff,Nat.reduceLeDiff,Nat.reduceLT,↓reduceIte,Int.reduceToNat,reduceCtorEq,Int.reduceLT,Int.reduceLE,Int.reduceGT,Int.reduceGE,Int.reduceEq,Int.reduceNe,Int.reduceNeg,Int.reduceAdd,Int.reduceSub,Sp.av]
  repeat' (first | (refine gD_dec (fun hg => ?_) (fun hg => ?_) <;> simp only [go_sem,Nat.reduceAdd,Nat.reduceSub,Nat.reduceMul,Nat.reduceEqDiff,Nat.reduceLeDiff,Nat.reduceLT,↓reduceIte,Int.reduceToNat,reduceCtorEq,Int.reduceLT,Int.reduceLE,Int.reduceGT,Int.reduceGE,Int.reduceEq,Int.reduceNe,Int.reduceNeg,Int.reduceAdd,Int.reduceSub,hg,List.length_map]) | (refine condD_dec (fun hg => ?_) (fun hg => ?_) <;> simp only [go_sem,Nat.reduceAdd,Nat.reduceSub,Nat.reduceMul,Nat.reduceEqDiff,Nat.reduceLeDiff,Nat.reduceLT,↓reduceIte,Int.reduceToNat,reduceCtorEq,Int.reduceLT,Int.reduceLE,Int.reduceGT,Int.reduceGE,Int.reduceEq,Int.reduceNe,Int.reduceNeg,Int.reduceAdd,Int.reduceSub,hg,List.length_map]))
  all_goals exact fin _ _ (by simp [Sp.has, *])
/-! ### faults -/
structure Flt where
  kind : Int
  pos : Int
def Flt.cells (f : Flt) : List AV := [iv f.kind, iv f.pos]
def alw (p perm : Int) : Bool := decide (bAnd .i64 p perm = perm)
def fk (perm : Int) : Int := if perm = 1 then 2 else if perm = 2 then 3 else if perm = 4 then 4 else 0
/-- The permissions at an address. -/
def Sp.pm (s : Sp) (x : Int) : Int := (s.perm[(x.tdiv 64).toNat]?).getD 0
def Sp.bad1 (s : Sp) (perm x : Int) : Flt := if s.has x = true then (if alw (s.pm x) perm = true then ⟨0, 0⟩ else ⟨fk perm, x⟩) else ⟨1, x⟩
def Sp.flt (s : Sp) (pos perm : Int) : Nat → Nat → Flt
  | 0, _ => ⟨0, 0⟩
  | m + 1, i => if (s.bad1 perm (iw .i64 (pos + i))).kind = 0 then s.flt pos perm m (i + 1) else s.bad1 perm (iw .i64 (pos + i))
def fltOut (f : Flt) (o : Out) : Prop := if f.kind = 0 then o = .ret (.tuple []) else o = .pan (.iface 166 (.agg f.cells))
theorem Sp.pm_at {s : Sp} (hs : s.ok) {x : Int} (hx : s.has x = true) : ∃ p, s.perm[(x.tdiv 64).toNat]? = some p ∧ s.pm x = p ∧ okP p = true ∧ 0 ≤ x.tdiv 64 ∧ x.tdiv 64 < s.perm.length := by
  simp only [Sp.has, Bool.and_eq_true, decide_eq_true_eq] at hx
  have hl := hs.len
  have e : x.tdiv 64 = x / 64 := Int.tdiv_eq_ediv_of_nonneg hx.1
  obtain ⟨p, hp⟩ := at_lt (l := s.perm) (i := (x.tdiv 64).toNat) (by omega)
  exact ⟨p, hp, by simp [Sp.pm, hp], List.all_eq_true.1 hs.all p (List.mem_of_getElem? hp), by omega, by omega⟩
theorem need_c (s : Sp) (hs : s.ok) (pos perm : Int) (n : Nat) (hn : n ≤ 1000000) (hp : perm = 0 ∨ perm = 1 ∨ perm = 2 ∨ perm = 4) :
    ACalls Tryd.prog 102 [s.av, iv pos, iv n, iv perm] [] (fun o H => fltOut (s.flt pos perm n 0) o ∧ H = []) := by
  refine ACalls.up ?_
  refine ACalls.intro (cs := []) (n := 46) Tryd.func102 rfl rfl rfl (by kernel_rfl) rfl ?_
  generalize hpost : (fun (o : Out) (H : Heap) => fltOut (s.flt pos perm n 0) o ∧ H = []) = post
  simp only [go_sem,Nat.reduceAdd,Nat.reduceSub,Nat.reduceMul,Nat.reduceEqDiff,Nat.reduceLeDiff,Nat.reduceLT,↓reduceIte,Int.reduceToNat,reduceCtorEq,Int.reduceLT,Int.reduceLE,Int.reduceGT,Int.reduceGE,Int.reduceEq,Int.reduceNe,Int.reduceNeg,Int.reduceAdd,Int.reduceSub,Sp.av]
  refine loop_fam (fun i : Nat => ((((((Ch.nil.put 1 (iv pos)).put 3 (iv perm)).put 4 (.ptr 0 0 0)).put 8 (.map 1)).put 13 (iv n)).put 14 (iv i)))
    (fun _ => [.rows 2 [[.view false 1 (s.perm.map r1), .view false 1 (s.byt.map rb)]], .amap [(iv 1, iv 2), (iv 2, iv 3), (iv 4, iv 4)]])
    (fun i => n - i) (fun i => i ≤ n ∧ s.flt pos perm n 0 = s.flt pos perm (n - i) i) 0 (by kernel_rfl) ⟨Nat.zero_le _, by simp⟩ (Wk.slots' rfl (by simp [wkS, Ch.get])) ?_
  rintro i ⟨hi, ha⟩ K hK
  have pan : ∀ f H, f = s.flt pos perm n 0 → f.kind ≠ 0 → Up 0 post (.pan (.iface 166 (.agg [iv f.kind, iv f.pos]))) H := fun f H e h => finp rfl (by rw [← hpost, ← e]; exact ⟨by rw [fltOut, if_neg h]; rfl, rfl⟩) H
  simp only [go_sem,Nat.reduceAdd,Nat.reduceSub,Nat.reduceMul,Nat.reduceEqDiff,Nat.reduceLeDiff,Nat.reduceLT,↓reduceIte,Int.reduceToNat,reduceCtorEq,Int.reduceLT,Int.reduceLE,Int.reduceGT,Int.reduceGE,Int.reduceEq,Int.reduceNe,Int.reduceNeg,Int.reduceAdd,Int.reduceSub]
  refine condD_dec (fun hc => ?_) (fun hc => ?_)
  · obtain ⟨m, hm⟩ : ∃ m, n - i = m + 1 := ⟨n - i - 1, by omega⟩
    rw [hm, Sp.flt] at ha
    have e1 : iw .i64 ((i : Int) + 1) = ((i + 1 : Nat) : Int) := by rw [iw64] <;> omega
    generalize hx : iw .i64 (pos + i) = x at ha
    simp only [go_sem,Nat.reduceAdd,Nat.reduceSub,Nat.reduceMul,Nat.reduceEqDiff,Nat.reduceLeDiff,Nat.reduceLT,↓reduceIte,Int.reduceToNat,reduceCtorEq,Int.reduceLT,Int.reduceLE,Int.reduceGT,Int.reduceGE,Int.reduceEq,Int.reduceNe,Int.reduceNeg,Int.reduceAdd,Int.reduceSub,hx]
    refine rK_use (enters_of Tryd.func100 rfl (by decide)) (ACalls.pure_use (has_c s x) rfl rfl) ?_
    cases hh : s.has x
    · simp only [go_sem,Nat.reduceAdd,Nat.reduceSub,Nat.reduceMul,Nat.reduceEqDiff,Nat.reduceLeDiff,Nat.reduceLT,↓reduceIte,Int.reduceToNat,reduceCtorEq,Int.reduceLT,Int.reduceLE,Int.reduceGT,Int.reduceGE,Int.reduceEq,Int.reduceNe,Int.reduceNeg,Int.reduceAdd,Int.reduceSub]
      have hb : s.bad1 perm x = ⟨1, x⟩ := by simp [Sp.bad1, hh]
      exact pan ⟨1, x⟩ _ (by rw [ha, hb]; rfl) (by simp)
    · obtain ⟨p, h1, h2, h3, h4, h5⟩ := Sp.pm_at hs hh
      have h6 := hs.p32
      have e2 : iw .i64 (x.tdiv 64) = x.tdiv 64 := iw64 (by omega) (by omega)
      simp only [go_sem,Nat.reduceAdd,Nat.reduceSub,Nat.reduceMul,Nat.reduceEqDiff,Nat.reduceLeDiff,Nat.reduceLT,↓reduceIte,Int.reduceToNat,reduceCtorEq,Int.reduceLT,Int.reduceLE,Int.reduceGT,Int.reduceGE,Int.reduceEq,Int.reduceNe,Int.reduceNeg,Int.reduceAdd,Int.reduceSub,List.length_map,List.getElem?_map,h1,h4,h5,e2]
      refine condD_dec (fun hd => ?_) (fun hd => ?_)
      · have hal : alw p perm = false := by simpa [alw] using hd
        have hb : s.bad1 perm x = ⟨fk perm, x⟩ := by simp [Sp.bad1, hh, h2, hal]
        rcases hp with rfl | rfl | rfl | rfl
        · have e0 : bAnd .i64 p 0 = 0 := by simp [bAnd]; rfl
          rw [alw, e0] at hal
          cases hal
        all_goals
          simp only [go_sem,Nat.reduceAdd,Nat.reduceSub,Nat.reduceMul,Nat.reduceEqDiff,Nat.reduceLeDiff,Nat.reduceLT,↓reduceIte,Int.reduceToNat,reduceCtorEq,Int.reduceLT,Int.reduceLE,Int.reduceGT,Int.reduceGE,Int.reduceEq,Int.reduceNe,Int.reduceNeg,Int.reduceAdd,Int.reduceSub]
          exact pan ⟨_, x⟩ _ (by rw [ha, hb]; rfl) (by simp)
      · have hal : alw p perm = true := by simpa [alw] using hd
        have hb : s.bad1 perm x = ⟨0, 0⟩ := by simp [Sp.bad1, hh, h2, hal]
        simp only [go_sem,Nat.reduceAdd,Nat.reduceSub,Nat.reduceMul,Nat.reduceEqDiff,Nat.reduceLeDiff,Nat.reduceLT,↓reduceIte,Int.reduceToNat,reduceCtorEq,Int.reduceLT,Int.reduceLE,Int.reduceGT,Int.reduceGE,Int.reduceEq,Int.reduceNe,Int.reduceNeg,Int.reduceAdd,Int.reduceSub,e1]
        exact hK (i + 1) _ _ ⟨by omega, by rw [ha, hb, if_pos rfl]; congr 1; omega⟩ (by omega) (Wk.slots' rfl (by simp [wkS, Ch.get]))
  · have hin : i = n := by omega
    subst hin
    simp only [go_sem,Nat.reduceAdd,Nat.reduceSub,Nat.reduceMul,Nat.reduceEqDiff,Nat.reduceLeDiff,Nat.reduceLT,↓reduceIte,Int.reduceToNat,reduceCtorEq,Int.reduceLT,Int.reduceLE,Int.reduceGT,Int.reduceGE,Int.reduceEq,Int.reduceNe,Int.reduceNeg,Int.reduceAdd,Int.reduceSub]
    exact finv rfl (by rw [← hpost, ha]; exact ⟨by simp [Sp.flt, fltOut], rfl⟩) _
theorem need_ok (s : Sp) (hs : s.ok) (pos perm : Int) (n : Nat) (hn : n ≤ 1000000) (hp : perm = 0 ∨ perm = 1 ∨ perm = 2 ∨ perm = 4) (hk : (s.flt pos perm n 0).kind = 0) :
    ACalls Tryd.prog 102 [s.av, iv pos, iv n, iv perm] [] (fun o H => o = .ret (.tuple []) ∧ H = []) := (need_c s hs pos perm n hn hp).mono fun o H ⟨h1, h2⟩ => ⟨by rwa [fltOut, if_pos hk] at h1, h2⟩
theorem need_pan (s : Sp) (hs : s.ok) (pos perm : Int) (n : Nat) (hn : n ≤ 1000000) (hp : perm = 0 ∨ perm = 1 ∨ perm = 2 ∨ perm = 4) (hk : (s.flt pos perm n 0).kind ≠ 0) :
    ACalls Tryd.prog 102 [s.av, iv pos, iv n, iv perm] [] (fun o H => o = .pan (.iface 166 (.agg (s.flt pos perm n 0).cells)) ∧ H = []) := (need_c s hs pos perm n hn hp).mono fun o H ⟨h1, h2⟩ => ⟨by rwa [fltOut, if_neg hk] at h1, h2⟩
theorem flt0 : ∀ (s : Sp) (pos perm : Int) (m i : Nat), (s.flt pos perm m i).kind = 0 → s.flt pos perm m i = ⟨0, 0⟩
  | s, pos, perm, 0, i, h => rfl
  | s, pos, perm, m + 1, i, h => by
    rw [Sp.flt] at h ⊢
    split at h
    · rename_i h1; rw [if_pos h1]; exact flt0 s pos perm m (i + 1) h
    · rename_i h1; exact absurd h h1
theorem faults_c (s : Sp) (hs : s.ok) (pos perm : Int) (n : Nat) (hn : n ≤ 1000000) (hp : perm = 0 ∨ perm = 1 ∨ perm = 2 ∨ perm = 4) :
    ACalls Tryd.prog 94 [s.av, iv pos, iv n, iv perm] [] (fun o H => o = .ret (.agg (s.flt pos perm n 0).cells) ∧ H = []) := by
  refine ACalls.up ?_
  refine ACalls.introD (n := 15) Tryd.func94 rfl (by kernel_rfl) rfl ?_
  refine DWp.seq (by kernel_rfl) ?_
  generalize hpost : (fun (o : Out) (H : Heap) => o = Out.ret (.agg (s.flt pos perm n 0).cells) ∧ H = []) = post
  simp only [go_sem,Nat.reduceAdd,Nat.reduceSub,Nat.reduceMul,Nat.reduceEqDiff,Nat.reduceLeDiff,Nat.reduceLT,↓reduceIte,Int.reduceToNat,reduceCtorEq,Int.reduceLT,Int.reduceLE,Int.reduceGT,Int.reduceGE,Int.reduceEq,Int.reduceNe,Int.reduceNeg,Int.reduceAdd,Int.reduceSub,Sp.av]
  refine DWp.defer (by kernel_rfl) rfl (by kernel_rfl) (by kernel_rfl) ?_
  simp only [go_sem,Nat.reduceAdd,Nat.reduceSub,Nat.reduceMul,Nat.reduceEqDiff,Nat.reduceLeDiff,Nat.reduceLT,↓reduceIte,Int.reduceToNat,reduceCtorEq,Int.reduceLT,Int.reduceLE,Int.reduceGT,Int.reduceGE,Int.reduceEq,Int.reduceNe,Int.reduceNeg,Int.reduceAdd,Int.reduceSub]
  refine ⟨(enters_of Tryd.func101 rfl (by decide)), fun d => ?_⟩
  have fin : ∀ f H, f = s.flt pos perm n 0 → Up 0 post (.ret (.agg [iv f.kind, iv f.pos])) H := fun f H e => finv rfl (by rw [← hpost, ← e]; exact ⟨rfl, rfl⟩) H
  rcases Decidable.em ((s.flt pos perm n 0).kind = 0) with hk | hk
  · refine rK_use (enters_of Tryd.func102 rfl (by decide)) (ACalls.pure_use (need_ok s hs pos perm n hn hp hk) rfl rfl) ?_
    simp only [go_sem,Nat.reduceAdd,Nat.reduceSub,Nat.reduceMul,Nat.reduceEqDiff,Nat.reduceLeDiff,Nat.reduceLT,↓reduceIte,Int.reduceToNat,reduceCtorEq,Int.reduceLT,Int.reduceLE,Int.reduceGT,Int.reduceGE,Int.reduceEq,Int.reduceNe,Int.reduceNeg,Int.reduceAdd,Int.reduceSub]
    refine ADef.intro (n := 15) Tryd.func101 rfl rfl (by kernel_rfl) rfl (by kernel_rfl) ?_
    simp only [go_sem,Nat.reduceAdd,Nat.reduceSub,Nat.reduceMul,Nat.reduceEqDiff,Nat.reduceLeDiff,Nat.reduceLT,↓reduceIte,Int.reduceToNat,reduceCtorEq,Int.reduceLT,Int.reduceLE,Int.reduceGT,Int.reduceGE,Int.reduceEq,Int.reduceNe,Int.reduceNeg,Int.reduceAdd,Int.reduceSub]
    exact fin ⟨0, 0⟩ _ (flt0 _ _ _ _ _ hk).symm
  · refine rK_pans (enters_of Tryd.func102 rfl (by decide)) (ACalls.pure_pan (need_pan s hs pos perm n hn hp hk) rfl rfl) ?_
    simp only [go_sem,Nat.reduceAdd,Nat.reduceSub,Nat.reduceMul,Nat.reduceEqDiff,Nat.reduceLeDiff,Nat.reduceLT,↓reduceIte,Int.reduceToNat,reduceCtorEq,Int.reduceLT,Int.reduceLE,Int.reduceGT,Int.reduceGE,Int.reduceEq,Int.reduceNe,Int.reduceNeg,Int.reduceAdd,Int.reduceSub,Flt.cells]
    refine ADef.intro (n := 15) Tryd.func101 rfl rfl (by kernel_rfl) rfl (by kernel_rfl) ?_
    simp only [go_sem,Nat.reduceAdd,Nat.reduceSub,Nat.reduceMul,Nat.reduceEqDiff,Nat.reduceLeDiff,Nat.reduceLT,↓reduceIte,Int.reduceToNat,reduceCtorEq,Int.reduceLT,Int.reduceLE,Int.reduceGT,Int.reduceGE,Int.reduceEq,Int.reduceNe,Int.reduceNeg,Int.reduceAdd,Int.reduceSub]
    exact fin _ _ rfl
end Go.Proofs.YtojfnagfafoiaaaDoor

set_option maxRecDepth 100000
set_option linter.unusedVariables false
set_option linter.unusedSimpArgs false
namespace Go.Proofs.YtojfnagfafoiaaaDoor
open Go.AM
def I64 (x : Int) : Prop := -9223372036854775808 ≤ x ∧ x ≤ 9223372036854775807
theorem iw_i64 (x : Int) : I64 (iw .i64 x) := by simp only [I64, iw, IntKind.wrap, IntKind.signed, IntKind.bits]; simp; omega
theorem I64.iw {x : Int} (h : I64 x) : iw .i64 x = x := iw64 h.1 h.2
theorem bA01 : bAnd .i64 0 1 = 0 := by decide
theorem bA11 : bAnd .i64 1 1 = 1 := by decide
theorem bA31 : bAnd .i64 3 1 = 1 := by decide
theorem bA41 : bAnd .i64 4 1 = 0 := by decide
theorem bA02 : bAnd .i64 0 2 = 0 := by decide
theorem bA12 : bAnd .i64 1 2 = 0 := by decide
theorem bA32 : bAnd .i64 3 2 = 2 := by decide
theorem bA42 : bAnd .i64 4 2 = 0 := by decide
theorem alw0 (p : Int) : alw p 0 = true := by
  have e0 : bAnd .i64 p 0 = 0 := by simp [bAnd]; rfl
  rw [alw, e0]; rfl
theorem okP_cases {p : Int} (h : okP p = true) : p = 0 ∨ p = 1 ∨ p = 3 ∨ p = 4 := by
  simp only [okP, Bool.or_eq_true, decide_eq_true_eq] at h
  omega
theorem mustF_c (f : Flt) : ACalls Tryd.prog 77 [.agg f.cells, iv 0] [] (fun o H => o = .ret (.agg f.cells) ∧ H = []) := by
  refine ACalls.up ?_
  refine ACalls.intro (cs := []) (n := 10) Tryd.func77 rfl rfl rfl (by kernel_rfl) rfl ?_
  generalize hpost : (fun (o : Out) (H : Heap) => o = Out.ret (.agg f.cells) ∧ H = []) = post
  simp only [go_sem,Nat.reduceAdd,Nat.reduceSub,Nat.reduceMul,Nat.reduceEqDiff,Nat.reduceLeDiff,Nat.reduceLT,↓reduceIte,Int.reduceToNat,reduceCtorEq,Int.reduceLT,Int.reduceLE,Int.reduceGT,Int.reduceGE,Int.reduceEq,Int.reduceNe,Int.reduceNeg,Int.reduceAdd,Int.reduceSub,Flt.cells]
  exact finv rfl (by rw [← hpost]; exact ⟨rfl, rfl⟩) _
theorem mustI_c (n : Int) : ACalls Tryd.prog 85 [iv n, iv 0] [] (fun o H => o = .ret (iv n) ∧ H = []) := by
  refine ACalls.up ?_
  refine ACalls.intro (cs := []) (n := 10) Tryd.func85 rfl rfl rfl (by kernel_rfl) rfl ?_
  generalize hpost : (fun (o : Out) (H : Heap) => o = Out.ret (iv n) ∧ H = []) = post
  simp only [go_sem,Nat.reduceAdd,Nat.reduceSub,Nat.reduceMul,Nat.reduceEqDiff,Nat.reduceLeDiff,Nat.reduceLT,↓reduceIte,Int.reduceToNat,reduceCtorEq,Int.reduceLT,Int.reduceLE,Int.reduceGT,Int.reduceGE,Int.reduceEq,Int.reduceNe,Int.reduceNeg,Int.reduceAdd,Int.reduceSub]
  exact finv rfl (by rw [← hpost]; exact ⟨rfl, rfl⟩) _
theorem mustB_c (xs : List (List AV)) (hx : ∀ row ∈ xs, ltL 0 row = true) : ACalls Tryd.prog 87 [.view false 1 xs, iv 0] [] (fun o H => o = .ret (.view false 1 xs) ∧ H = []) := by
  refine ACalls.up ?_
  refine ACalls.intro (cs := []) (n := 10) Tryd.func87 rfl rfl rfl (by kernel_rfl) rfl ?_
  generalize hpost : (fun (o : Out) (H : Heap) => o = Out.ret (.view false 1 xs) ∧ H = []) = post
  simp only [go_sem,Nat.reduceAdd,Nat.reduceSub,Nat.reduceMul,Nat.reduceEqDiff,Nat.reduceLeDiff,Nat.reduceLT,↓reduceIte,Int.reduceToNat,reduceCtorEq,Int.reduceLT,Int.reduceLE,Int.reduceGT,Int.reduceGE,Int.reduceEq,Int.reduceNe,Int.reduceNeg,Int.reduceAdd,Int.reduceSub]
  exact finv rfl (by rw [← hpost]; exact ⟨rfl, rfl⟩) _
theorem mustS_c (s : Sp) : ACalls Tryd.prog 82 [s.av, iv 0] [] (fun o H => o = .ret s.av ∧ H = []) := by
  refine ACalls.up ?_
  refine ACalls.intro (cs := []) (n := 10) Tryd.func82 rfl rfl rfl (by kernel_rfl) rfl ?_
  generalize hpost : (fun (o : Out) (H : Heap) => o = Out.ret s.av ∧ H = []) = post
  simp only [go_sem,Nat.reduceAdd,Nat.reduceSub,Nat.reduceMul,Nat.reduceEqDiff,Nat.reduceLeDiff,Nat.reduceLT,↓reduceIte,Int.reduceToNat,reduceCtorEq,Int.reduceLT,Int.reduceLE,Int.reduceGT,Int.reduceGE,Int.reduceEq,Int.reduceNe,Int.reduceNeg,Int.reduceAdd,Int.reduceSub,Sp.av]
  exact finv rfl (by rw [← hpost]; exact ⟨rfl, rfl⟩) _
theorem Sp.chk_ok {s : Sp} (h : s.ok) : s.chk = 0 := if_pos h
theorem access_c (s : Sp) (hs : s.ok) (pos perm : Int) (n : Nat) (hn : n ≤ 2048) (hp : perm = 1 ∨ perm = 2 ∨ perm = 4) :
    ACalls Tryd.prog 78 [s.av, iv pos, iv n, iv perm] [] (fun o H => o = .ret (.tuple [.agg (s.flt pos perm n 0).cells, iv 0]) ∧ H = []) := by
  refine ACalls.up ?_
  refine ACalls.intro (cs := []) (n := 41) Tryd.func78 rfl rfl rfl (by kernel_rfl) rfl ?_
  generalize hpost : (fun (o : Out) (H : Heap) => o = Out.ret (.tuple [.agg (s.flt pos perm n 0).cells, iv 0]) ∧ H = []) = post
  simp only [go_sem,Nat.reduceAdd,Nat.reduceSub,Nat.reduceMul,Nat.reduceEqDiff,Nat.reduceLeDiff,Nat.reduceLT,↓reduceIte,Int.reduceToNat,reduceCtorEq,Int.reduceLT,Int.reduceLE,Int.reduceGT,Int.reduceGE,Int.reduceEq,Int.reduceNe,Int.reduceNeg,Int.reduceAdd,Int.reduceSub,Sp.av]
  refine rK_use (enters_of Tryd.func50 rfl (by decide)) (ACalls.pure_use (mcheck_c s) rfl rfl) ?_
  rw [Sp.chk_ok hs]
  simp only [go_sem,Nat.reduceAdd,Nat.reduceSub,Nat.reduceMul,Nat.reduceEqDiff,Nat.reduceLeDiff,Nat.reduceLT,↓reduceIte,Int.reduceToNat,reduceCtorEq,Int.reduceLT,Int.reduceLE,Int.reduceGT,Int.reduceGE,Int.reduceEq,Int.reduceNe,Int.reduceNeg,Int.reduceAdd,Int.reduceSub]
  have h1 : ¬ ((n : Int) < 0) := by omega
  have h2 : ¬ ((2048 : Int) < n) := by omega
  have hfin : cwp Tryd.prog 41 { D := [], B := 0, cuts := [] } .skip (fun _ _ _ => True) .nil [] := trivial
  rcases hp with rfl | rfl | rfl
  all_goals
    simp only [go_sem,Nat.reduceAdd,Nat.reduceSub,Nat.reduceMul,Nat.reduceEqDiff,Nat.reduceLeDiff,Nat.reduceLT,↓reduceIte,Int.reduceToNat,reduceCtorEq,Int.reduceLT,Int.reduceLE,Int.reduceGT,Int.reduceGE,Int.reduceEq,Int.reduceNe,Int.reduceNeg,Int.reduceAdd,Int.reduceSub,h1,h2]
    refine rK_use (enters_of Tryd.func94 rfl (by decide)) (ACalls.pure_use (faults_c s hs pos _ n (by omega) (by simp)) rfl rfl) ?_
    simp only [go_sem,Nat.reduceAdd,Nat.reduceSub,Nat.reduceMul,Nat.reduceEqDiff,Nat.reduceLeDiff,Nat.reduceLT,↓reduceIte,Int.reduceToNat,reduceCtorEq,Int.reduceLT,Int.reduceLE,Int.reduceGT,Int.reduceGE,Int.reduceEq,Int.reduceNe,Int.reduceNeg,Int.reduceAdd,Int.reduceSub,Flt.cells]
    exact finv rfl (by rw [← hpost]; exact ⟨rfl, rfl⟩) _
theorem bad1_ok {s : Sp} {perm x p : Int} (hh : s.has x = true) (h2 : s.pm x = p) (ha : alw p perm = true) : s.bad1 perm x = ⟨0, 0⟩ := by rw [Sp.bad1, if_pos hh, h2, if_pos ha]
theorem bad1_no {s : Sp} {perm x p : Int} (hh : s.has x = true) (h2 : s.pm x = p) (ha : alw p perm = false) : s.bad1 perm x = ⟨fk perm, x⟩ := by rw [Sp.bad1, if_pos hh, h2, if_neg (by rw [ha]; decide)]
theorem rfault_c (s : Sp) (hs : s.ok) (pos perm : Int) (n : Nat) (hn : n ≤ 1000000) (hp : perm = 0 ∨ perm = 1 ∨ perm = 2 ∨ perm = 4) :
    ACalls Tryd.prog 61 [s.av, iv pos, iv n, iv perm] [] (fun o H => o = .ret (.agg (s.flt pos perm n 0).cells) ∧ H = []) := by
  refine ACalls.up ?_
  refine ACalls.intro (cs := []) (n := 62) Tryd.func61 rfl rfl rfl (by kernel_rfl) rfl ?_
  generalize hpost : (fun (o : Out) (H : Heap) => o = Out.ret (.agg (s.flt pos perm n 0).cells) ∧ H = []) = post
  simp only [go_sem,Nat.reduceAdd,Nat.reduceSub,Nat.reduceMul,Nat.reduceEqDiff,Nat.reduceLeDiff,Nat.reduceLT,↓reduceIte,Int.reduceToNat,reduceCtorEq,Int.reduceLT,Int.reduceLE,Int.reduceGT,Int.reduceGE,Int.reduceEq,Int.reduceNe,Int.reduceNeg,Int.reduceAdd,Int.reduceSub,Sp.av]
  refine loop_fam (fun i : Nat => ((((((Ch.nil.put 1 (iv pos)).put 2 (iv n)).put 3 (iv perm)).put 4 (.ptr 0 0 0)).put 8 (.ptr 1 0 0)).put 9 (iv i)))
    (fun _ => [.rows 2 [[.view false 1 (s.perm.map r1), .view false 1 (s.byt.map rb)]], .rows 2 [[iv 0, iv 0]]])
    (fun i => n - i) (fun i => i ≤ n ∧ s.flt pos perm n 0 = s.flt pos perm (n - i) i) 0 (by kernel_rfl) ⟨Nat.zero_le _, by simp⟩ (Wk.slots' rfl (by simp [wkS, Ch.get])) ?_
  rintro i ⟨hi, ha⟩ K hK
  have fin : ∀ f H, f = s.flt pos perm n 0 → Up 0 post (.ret (.agg [iv f.kind, iv f.pos])) H := fun f H e => finv rfl (by rw [← hpost, ← e]; exact ⟨rfl, rfl⟩) H
  simp only [go_sem,Nat.reduceAdd,Nat.reduceSub,Nat.reduceMul,Nat.reduceEqDiff,Nat.reduceLeDiff,Nat.reduceLT,↓reduceIte,Int.reduceToNat,reduceCtorEq,Int.reduceLT,Int.reduceLE,Int.reduceGT,Int.reduceGE,Int.reduceEq,Int.reduceNe,Int.reduceNeg,Int.reduceAdd,Int.reduceSub]
  refine condD_dec (fun hc => ?_) (fun hc => ?_)
  · obtain ⟨m, hm⟩ : ∃ m, n - i = m + 1 := ⟨n - i - 1, by omega⟩
    rw [hm, Sp.flt] at ha
    have e1 : iw .i64 ((i : Int) + 1) = ((i + 1 : Nat) : Int) := by rw [iw64] <;> omega
    generalize hx : iw .i64 (pos + i) = x at ha
    simp only [go_sem,Nat.reduceAdd,Nat.reduceSub,Nat.reduceMul,Nat.reduceEqDiff,Nat.reduceLeDiff,Nat.reduceLT,↓reduceIte,Int.reduceToNat,reduceCtorEq,Int.reduceLT,Int.reduceLE,Int.reduceGT,Int.reduceGE,Int.reduceEq,Int.reduceNe,Int.reduceNeg,Int.reduceAdd,Int.reduceSub,hx]
    refine rK_use (enters_of Tryd.func91 rfl (by decide)) (ACalls.pure_use (inside_c s x) rfl rfl) ?_
    cases hh : s.has x
    · simp only [go_sem,Nat.reduceAdd,Nat.reduceSub,Nat.reduceMul,Nat.reduceEqDiff,Nat.reduceLeDiff,Nat.reduceLT,↓reduceIte,Int.reduceToNat,reduceCtorEq,Int.reduceLT,Int.reduceLE,Int.reduceGT,Int.reduceGE,Int.reduceEq,Int.reduceNe,Int.reduceNeg,Int.reduceAdd,Int.reduceSub]
      have hb : s.bad1 perm x = ⟨1, x⟩ := by simp [Sp.bad1, hh]
      exact fin ⟨1, x⟩ _ (by rw [ha, hb]; rfl)
    · obtain ⟨p, h1, h2, h3, h4, h5⟩ := Sp.pm_at hs hh
      have h6 := hs.p32
      have e2 : iw .i64 (x.tdiv 64) = x.tdiv 64 := iw64 (by omega) (by omega)
      simp only [go_sem,Nat.reduceAdd,Nat.reduceSub,Nat.reduceMul,Nat.reduceEqDiff,Nat.reduceLeDiff,Nat.reduceLT,↓reduceIte,Int.reduceToNat,reduceCtorEq,Int.reduceLT,Int.reduceLE,Int.reduceGT,Int.reduceGE,Int.reduceEq,Int.reduceNe,Int.reduceNeg,Int.reduceAdd,Int.reduceSub,List.length_map,List.getElem?_map,h1,h4,h5,e2]
      rcases okP_cases h3 with rfl | rfl | rfl | rfl <;> rcases hp with rfl | rfl | rfl | rfl <;> simp only [go_sem,Nat.reduceAdd,Nat.reduceSub,Nat.reduceMul,Nat.reduceEqDiff,Nat.reduceLeDiff,Nat.reduceLT,↓reduceIte,Int.reduceToNat,reduceCtorEq,Int.reduceLT,Int.reduceLE,Int.reduceGT,Int.reduceGE,Int.reduceEq,Int.reduceNe,Int.reduceNeg,Int.reduceAdd,Int.reduceSub,bA01,bA11,bA31,bA41,bA02,bA12,bA32,bA42,e1]
      all_goals first
        | (refine fin ⟨_, x⟩ _ ?_
           rw [ha, bad1_no hh h2]
           · rfl
           · decide)
        | (refine hK (i + 1) _ _ ⟨by omega, ?_⟩ (by omega) (Wk.slots' rfl (by simp [wkS, Ch.get]))
           rw [ha, bad1_ok hh h2, if_pos rfl]
           · congr 1; omega
           · decide)
  · simp only [go_sem,Nat.reduceAdd,Nat.reduceSub,Nat.reduceMul,Nat.reduceEqDiff,Nat.reduceLeDiff,Nat.reduceLT,↓reduceIte,Int.reduceToNat,reduceCtorEq,Int.reduceLT,Int.reduceLE,Int.reduceGT,Int.reduceGE,Int.reduceEq,Int.reduceNe,Int.reduceNeg,Int.reduceAdd,Int.reduceSub]
    have hin : i = n := by omega
    subst hin
    rw [Nat.sub_self, Sp.flt] at ha
    exact fin ⟨0, 0⟩ _ ha.symm
/-- The executable bytes from an address on. -/
def Sp.fet (s : Sp) (pos : Int) : Nat → Nat → List UInt8
  | 0, _ => []
  | m + 1, i => if s.has (iw .i64 (pos + i)) = true ∧ s.pm (iw .i64 (pos + i)) = 4 then (s.byt[(iw .i64 (pos + i)).toNat]?).getD 0 :: s.fet pos m (i + 1) else []
theorem Sp.fet_len (s : Sp) (pos : Int) : ∀ (m i : Nat), (s.fet pos m i).length ≤ m
  | 0, _ => Nat.le_refl _
  | m + 1, i => by
    rw [Sp.fet]
    split
    · have := Sp.fet_len s pos m (i + 1); simp; omega
    · simp
theorem Sp.byt_at {s : Sp} {x : Int} (hx : s.has x = true) : ∃ b, s.byt[x.toNat]? = some b ∧ 0 ≤ x ∧ x < s.byt.length := by
  simp only [Sp.has, Bool.and_eq_true, decide_eq_true_eq] at hx
  obtain ⟨b, hb⟩ := at_lt (l := s.byt) (i := x.toNat) (by omega)
  exact ⟨b, hb, hx.1, hx.2⟩
theorem fetch_c (s : Sp) (hs : s.ok) (pos : Int) (n : Nat) (hn : n ≤ 2048) :
    ACalls Tryd.prog 88 [s.av, iv pos, iv n] [] (fun o H => o = .ret (.tuple [.view false 1 ((s.fet pos n 0).map rb), iv 0]) ∧ H = []) := by
  refine ACalls.up ?_
  refine ACalls.intro (cs := []) (n := 53) Tryd.func88 rfl rfl rfl (by kernel_rfl) rfl ?_
  generalize hpost : (fun (o : Out) (H : Heap) => o = Out.ret (.tuple [.view false 1 ((s.fet pos n 0).map rb), iv 0]) ∧ H = []) = post
  simp only [go_sem,Nat.reduceAdd,Nat.reduceSub,Nat.reduceMul,Nat.reduceEqDiff,Nat.reduceLeDiff,Nat.reduceLT,↓reduceIte,Int.reduceToNat,reduceCtorEq,Int.reduceLT,Int.reduceLE,Int.reduceGT,Int.reduceGE,Int.reduceEq,Int.reduceNe,Int.reduceNeg,Int.reduceAdd,Int.reduceSub,Sp.av]
  refine rK_use (enters_of Tryd.func50 rfl (by decide)) (ACalls.pure_use (mcheck_c s) rfl rfl) ?_
  rw [Sp.chk_ok hs]
  have h1 : ¬ ((n : Int) < 0) := by omega
  have h2 : ¬ ((2048 : Int) < n) := by omega
  simp only [go_sem,Nat.reduceAdd,Nat.reduceSub,Nat.reduceMul,Nat.reduceEqDiff,Nat.reduceLeDiff,Nat.reduceLT,↓reduceIte,Int.reduceToNat,reduceCtorEq,Int.reduceLT,Int.reduceLE,Int.reduceGT,Int.reduceGE,Int.reduceEq,Int.reduceNe,Int.reduceNeg,Int.reduceAdd,Int.reduceSub,h1,h2]
  have fin : ∀ (acc : List UInt8) (H : Heap), acc = s.fet pos n 0 → H = [.rows 2 [[.view false 1 (s.perm.map r1), .view false 1 (s.byt.map rb)]], .rows 1 (acc.map rb)] → Up 0 post (.ret (.tuple [.sl 1 0 acc.length none, iv 0])) H := fun acc H e1 e2 => by
    subst e2
    refine up_one 1 1 (acc.map rb) rfl (rb_lt0 _) (by simp [Out.fzOk, AV.fzOk, fzOkL]) ?_ ?_
    · simp [Out.fz, AV.fz, fzL, Out.lt, AV.lt, ltL]
    · rw [← hpost, ← e1]
      have e4 : (acc.map rb).take acc.length = acc.map rb := List.take_of_length_le (by simp)
      simp [Out.fz, AV.fz, fzL, e4]
  refine loop_fam (fun x : Nat × List UInt8 => (((((Ch.nil.put 1 (iv pos)).put 3 (.ptr 0 0 0)).put 9 (.sl 1 0 x.2.length none)).put 23 (iv n)).put 24 (iv x.1)))
    (fun x => [.rows 2 [[.view false 1 (s.perm.map r1), .view false 1 (s.byt.map rb)]], .rows 1 (x.2.map rb)])
    (fun x => n - x.1) (fun x => x.1 ≤ n ∧ x.2.length ≤ x.1 ∧ s.fet pos n 0 = x.2 ++ s.fet pos (n - x.1) x.1) (0, []) (by kernel_rfl) ⟨Nat.zero_le _, by simp, by simp⟩ ?_ ?_
  · exact (Wk.slots (s' := (((((Ch.nil.put 1 (iv pos)).put 3 (.ptr 0 0 0)).put 9 (.view true 0 [])).put 23 (iv n)).put 24 (iv 0))) (by simp [wkS, Ch.get])).trans
      ((Wk.ghost (.rows 1 [])).trans (Wk.le (.cons _ (.cons _ (.cons _ (LeC.refl _) (.sl0 0 1 0)) (.refl _)) (.refl _)) (LeH.refl _)))
  rintro ⟨i, acc⟩ ⟨hi, hacc, ha⟩ K hK
  simp only at hi hacc ha
  simp only [go_sem,Nat.reduceAdd,Nat.reduceSub,Nat.reduceMul,Nat.reduceEqDiff,Nat.reduceLeDiff,Nat.reduceLT,↓reduceIte,Int.reduceToNat,reduceCtorEq,Int.reduceLT,Int.reduceLE,Int.reduceGT,Int.reduceGE,Int.reduceEq,Int.reduceNe,Int.reduceNeg,Int.reduceAdd,Int.reduceSub]
  refine condD_dec (fun hc => ?_) (fun hc => ?_)
  · obtain ⟨m, hm⟩ : ∃ m, n - i = m + 1 := ⟨n - i - 1, by omega⟩
    rw [hm, Sp.fet] at ha
    have e1 : iw .i64 ((i : Int) + 1) = ((i + 1 : Nat) : Int) := by rw [iw64] <;> omega
    generalize hx : iw .i64 (pos + i) = x at ha
    simp only [go_sem,Nat.reduceAdd,Nat.reduceSub,Nat.reduceMul,Nat.reduceEqDiff,Nat.reduceLeDiff,Nat.reduceLT,↓reduceIte,Int.reduceToNat,reduceCtorEq,Int.reduceLT,Int.reduceLE,Int.reduceGT,Int.reduceGE,Int.reduceEq,Int.reduceNe,Int.reduceNeg,Int.reduceAdd,Int.reduceSub,hx]
    refine rK_use (enters_of Tryd.func100 rfl (by decide)) (ACalls.pure_use (has_c s x) rfl rfl) ?_
    cases hh : s.has x
    · simp only [go_sem,Nat.reduceAdd,Nat.reduceSub,Nat.reduceMul,Nat.reduceEqDiff,Nat.reduceLeDiff,Nat.reduceLT,↓reduceIte,Int.reduceToNat,reduceCtorEq,Int.reduceLT,Int.reduceLE,Int.reduceGT,Int.reduceGE,Int.reduceEq,Int.reduceNe,Int.reduceNeg,Int.reduceAdd,Int.reduceSub]
      exact fin acc _ (by rw [ha, if_neg (fun h => by rw [hh] at h; cases h.1)]; simp) rfl
    · obtain ⟨p, k1, k2, k3, k4, k5⟩ := Sp.pm_at hs hh
      obtain ⟨b, b1, b2, b3⟩ := Sp.byt_at hh
      have h6 := hs.p32
      have e2 : iw .i64 (x.tdiv 64) = x.tdiv 64 := iw64 (by omega) (by omega)
      simp only [go_sem,Nat.reduceAdd,Nat.reduceSub,Nat.reduceMul,Nat.reduceEqDiff,Nat.reduceLeDiff,Nat.reduceLT,↓reduceIte,Int.reduceToNat,reduceCtorEq,Int.reduceLT,Int.reduceLE,Int.reduceGT,Int.reduceGE,Int.reduceEq,Int.reduceNe,Int.reduceNeg,Int.reduceAdd,Int.reduceSub,List.length_map,List.getElem?_map,k1,k4,k5,e2]
      refine condD_dec (fun hd => ?_) (fun hd => ?_)
      · simp only [go_sem,Nat.reduceAdd,Nat.reduceSub,Nat.reduceMul,Nat.reduceEqDiff,Nat.reduceLeDiff,Nat.reduceLT,↓reduceIte,Int.reduceToNat,reduceCtorEq,Int.reduceLT,Int.reduceLE,Int.reduceGT,Int.reduceGE,Int.reduceEq,Int.reduceNe,Int.reduceNeg,Int.reduceAdd,Int.reduceSub]
        exact fin acc _ (by rw [ha, if_neg (fun h => hd (k2 ▸ h.2))]; simp) rfl
      · have hd' : p = 4 := Decidable.of_not_not hd
        have e4 : (acc.map rb).take acc.length = acc.map rb := List.take_of_length_le (by simp)
        have e5 : acc.length + 1 ≤ 68719476736 := by omega
        simp only [go_sem,Nat.reduceAdd,Nat.reduceSub,Nat.reduceMul,Nat.reduceEqDiff,Nat.reduceLeDiff,Nat.reduceLT,↓reduceIte,Int.reduceToNat,reduceCtorEq,Int.reduceLT,Int.reduceLE,Int.reduceGT,Int.reduceGE,Int.reduceEq,Int.reduceNe,Int.reduceNeg,Int.reduceAdd,Int.reduceSub,List.length_map,List.getElem?_map,b1,b2,b3,e1,e4,e5]
        exact hK (i + 1, acc ++ [b]) _ _ ⟨by dsimp only; omega, by simp; omega, by rw [ha, if_pos ⟨hh, by rw [k2, hd']⟩, b1]; dsimp only; rw [show n - (i + 1) = m by omega]; simp⟩ (by dsimp only; omega)
          (Wk.push (A := [.rows 2 [[.view false 1 (s.perm.map r1), .view false 1 (s.byt.map rb)]]]) (b := .rows 1 ((acc ++ [b]).map rb)) 3 rfl (by simp) (by simp) (by simp [Blk.lt, ltL, AV.lt]) (blt0 (rb_lt0 _)) (by simp) (by simp [wkP, Ch.get, AV.ren, pu_lt, pu_eq]))
  · simp only [go_sem,Nat.reduceAdd,Nat.reduceSub,Nat.reduceMul,Nat.reduceEqDiff,Nat.reduceLeDiff,Nat.reduceLT,↓reduceIte,Int.reduceToNat,reduceCtorEq,Int.reduceLT,Int.reduceLE,Int.reduceGT,Int.reduceGE,Int.reduceEq,Int.reduceNe,Int.reduceNeg,Int.reduceAdd,Int.reduceSub]
    have hin : i = n := by omega
    subst hin
    rw [Nat.sub_self, Sp.fet, List.append_nil] at ha
    exact fin acc _ ha.symm rfl
end Go.Proofs.YtojfnagfafoiaaaDoor

set_option maxRecDepth 100000
set_option linter.unusedVariables false
set_option linter.unusedSimpArgs false
namespace Go.Proofs.YtojfnagfafoiaaaDoor
open Go.AM
theorem rfetched_c (s : Sp) (hs : s.ok) (pos : Int) (n : Nat) (hn : n ≤ 2048) :
    ACalls Tryd.prog 59 [s.av, iv pos, iv n] [] (fun o H => o = .ret (.view false 1 ((s.fet pos n 0).map rb)) ∧ H = []) := by
  refine ACalls.up ?_
  refine ACalls.intro (cs := []) (n := 40) Tryd.func59 rfl rfl rfl (by kernel_rfl) rfl ?_
  generalize hpost : (fun (o : Out) (H : Heap) => o = Out.ret (.view false 1 ((s.fet pos n 0).map rb)) ∧ H = []) = post
  simp only [go_sem,Nat.reduceAdd,Nat.reduceSub,Nat.reduceMul,Nat.reduceEqDiff,Nat.reduceLeDiff,Nat.reduceLT,↓reduceIte,Int.reduceToNat,reduceCtorEq,Int.reduceLT,Int.reduceLE,Int.reduceGT,Int.reduceGE,Int.reduceEq,Int.reduceNe,Int.reduceNeg,Int.reduceAdd,Int.reduceSub,Sp.av]
  have fin : ∀ (acc : List UInt8) (H : Heap), acc = s.fet pos n 0 → H = [.rows 2 [[.view false 1 (s.perm.map r1), .view false 1 (s.byt.map rb)]], .rows 1 (acc.map rb)] → Up 0 post (.ret (.sl 1 0 acc.length none)) H := fun acc H e1 e2 => by
    subst e2
    refine up_one 1 1 (acc.map rb) rfl (rb_lt0 _) (by simp [Out.fzOk, AV.fzOk, fzOkL]) ?_ ?_
    · simp [Out.fz, AV.fz, fzL, Out.lt, AV.lt, ltL]
    · rw [← hpost, ← e1]
      have e4 : (acc.map rb).take acc.length = acc.map rb := List.take_of_length_le (by simp)
      simp [Out.fz, AV.fz, fzL, e4]
  refine loop_fam (fun x : Nat × List UInt8 => (((((Ch.nil.put 1 (iv pos)).put 2 (iv n)).put 3 (.ptr 0 0 0)).put 7 (.sl 1 0 x.2.length none)).put 8 (iv x.1)))
    (fun x => [.rows 2 [[.view false 1 (s.perm.map r1), .view false 1 (s.byt.map rb)]], .rows 1 (x.2.map rb)])
    (fun x => n - x.1) (fun x => x.1 ≤ n ∧ x.2.length ≤ x.1 ∧ s.fet pos n 0 = x.2 ++ s.fet pos (n - x.1) x.1) (0, []) (by kernel_rfl) ⟨Nat.zero_le _, by simp, by simp⟩ ?_ ?_
  · exact (Wk.slots (s' := (((((Ch.nil.put 1 (iv pos)).put 2 (iv n)).put 3 (.ptr 0 0 0)).put 7 (.view true 0 [])).put 8 (iv 0))) (by simp [wkS, Ch.get])).trans
      ((Wk.ghost (.rows 1 [])).trans (Wk.le (.cons _ (.cons _ (LeC.refl _) (.sl0 0 1 0)) (.refl _)) (LeH.refl _)))
  rintro ⟨i, acc⟩ ⟨hi, hacc, ha⟩ K hK
  simp only at hi hacc ha
  simp only [go_sem,Nat.reduceAdd,Nat.reduceSub,Nat.reduceMul,Nat.reduceEqDiff,Nat.reduceLeDiff,Nat.reduceLT,↓reduceIte,Int.reduceToNat,reduceCtorEq,Int.reduceLT,Int.reduceLE,Int.reduceGT,Int.reduceGE,Int.reduceEq,Int.reduceNe,Int.reduceNeg,Int.reduceAdd,Int.reduceSub]
  refine condD_dec (fun hc => ?_) (fun hc => ?_)
  · obtain ⟨m, hm⟩ : ∃ m, n - i = m + 1 := ⟨n - i - 1, by omega⟩
    rw [hm, Sp.fet] at ha
    have e1 : iw .i64 ((i : Int) + 1) = ((i + 1 : Nat) : Int) := by rw [iw64] <;> omega
    generalize hx : iw .i64 (pos + i) = x at ha
    simp only [go_sem,Nat.reduceAdd,Nat.reduceSub,Nat.reduceMul,Nat.reduceEqDiff,Nat.reduceLeDiff,Nat.reduceLT,↓reduceIte,Int.reduceToNat,reduceCtorEq,Int.reduceLT,Int.reduceLE,Int.reduceGT,Int.reduceGE,Int.reduceEq,Int.reduceNe,Int.reduceNeg,Int.reduceAdd,Int.reduceSub,hx]
    refine rK_use (enters_of Tryd.func91 rfl (by decide)) (ACalls.pure_use (inside_c s x) rfl rfl) ?_
    cases hh : s.has x
    · simp only [go_sem,Nat.reduceAdd,Nat.reduceSub,Nat.reduceMul,Nat.reduceEqDiff,Nat.reduceLeDiff,Nat.reduceLT,↓reduceIte,Int.reduceToNat,reduceCtorEq,Int.reduceLT,Int.reduceLE,Int.reduceGT,Int.reduceGE,Int.reduceEq,Int.reduceNe,Int.reduceNeg,Int.reduceAdd,Int.reduceSub]
      exact fin acc _ (by rw [ha, if_neg (fun h => by rw [hh] at h; cases h.1)]; simp) rfl
    · obtain ⟨p, k1, k2, k3, k4, k5⟩ := Sp.pm_at hs hh
      obtain ⟨b, b1, b2, b3⟩ := Sp.byt_at hh
      have h6 := hs.p32
      have e2 : iw .i64 (x.tdiv 64) = x.tdiv 64 := iw64 (by omega) (by omega)
      simp only [go_sem,Nat.reduceAdd,Nat.reduceSub,Nat.reduceMul,Nat.reduceEqDiff,Nat.reduceLeDiff,Nat.reduceLT,↓reduceIte,Int.reduceToNat,reduceCtorEq,Int.reduceLT,Int.reduceLE,Int.reduceGT,Int.reduceGE,Int.reduceEq,Int.reduceNe,Int.reduceNeg,Int.reduceAdd,Int.reduceSub,List.length_map,List.getElem?_map,k1,k4,k5,e2]
      refine condD_dec (fun hd => ?_) (fun hd => ?_)
      · simp only [go_sem,Nat.reduceAdd,Nat.reduceSub,Nat.reduceMul,Nat.reduceEqDiff,Nat.reduceLeDiff,Nat.reduceLT,↓reduceIte,Int.reduceToNat,reduceCtorEq,Int.reduceLT,Int.reduceLE,Int.reduceGT,Int.reduceGE,Int.reduceEq,Int.reduceNe,Int.reduceNeg,Int.reduceAdd,Int.reduceSub]
        exact fin acc _ (by rw [ha, if_neg (fun h => hd (k2 ▸ h.2))]; simp) rfl
      · have hd' : p = 4 := Decidable.of_not_not hd
        have e4 : (acc.map rb).take acc.length = acc.map rb := List.take_of_length_le (by simp)
        have e5 : acc.length + 1 ≤ 68719476736 := by omega
        simp only [go_sem,Nat.reduceAdd,Nat.reduceSub,Nat.reduceMul,Nat.reduceEqDiff,Nat.reduceLeDiff,Nat.reduceLT,↓reduceIte,Int.reduceToNat,reduceCtorEq,Int.reduceLT,Int.reduceLE,Int.reduceGT,Int.reduceGE,Int.reduceEq,Int.reduceNe,Int.reduceNeg,Int.reduceAdd,Int.reduceSub,List.length_map,List.getElem?_map,b1,b2,b3,e1,e4,e5]
        exact hK (i + 1, acc ++ [b]) _ _ ⟨by dsimp only; omega, by simp; omega, by rw [ha, if_pos ⟨hh, by rw [k2, hd']⟩, b1]; dsimp only; rw [show n - (i + 1) = m by omega]; simp⟩ (by dsimp only; omega)
          (Wk.push (A := [.rows 2 [[.view false 1 (s.perm.map r1), .view false 1 (s.byt.map rb)]]]) (b := .rows 1 ((acc ++ [b]).map rb)) 3 rfl (by simp) (by simp) (by simp [Blk.lt, ltL, AV.lt]) (blt0 (rb_lt0 _)) (by simp) (by simp [wkP, Ch.get, AV.ren, pu_lt, pu_eq]))
  · simp only [go_sem,Nat.reduceAdd,Nat.reduceSub,Nat.reduceMul,Nat.reduceEqDiff,Nat.reduceLeDiff,Nat.reduceLT,↓reduceIte,Int.reduceToNat,reduceCtorEq,Int.reduceLT,Int.reduceLE,Int.reduceGT,Int.reduceGE,Int.reduceEq,Int.reduceNe,Int.reduceNeg,Int.reduceAdd,Int.reduceSub]
    have hin : i = n := by omega
    subst hin
    rw [Nat.sub_self, Sp.fet, List.append_nil] at ha
    exact fin acc _ ha.symm rfl
theorem cloneB_c (xs : List UInt8) (full : Bool) (hl : xs.length ≤ 1000000) : ACalls Tryd.prog 128 [.view full 1 (xs.map rb)] [] (fun o H => o = .ret (.view false 1 (xs.map rb)) ∧ H = []) := by
  refine ACalls.up ?_
  refine ACalls.intro (cs := []) (n := 8) Tryd.func128 rfl rfl rfl (by kernel_rfl) rfl ?_
  generalize hpost : (fun (o : Out) (H : Heap) => o = Out.ret (.view false 1 (xs.map rb)) ∧ H = []) = post
  simp only [go_sem,Nat.reduceAdd,Nat.reduceSub,Nat.reduceMul,Nat.reduceEqDiff,Nat.reduceLeDiff,Nat.reduceLT,↓reduceIte,Int.reduceToNat,reduceCtorEq,Int.reduceLT,Int.reduceLE,Int.reduceGT,Int.reduceGE,Int.reduceEq,Int.reduceNe,Int.reduceNeg,Int.reduceAdd,Int.reduceSub,rK_ndb]
  intro b hb
  refine condD_split (fun e => ?_) (fun e => ?_)
  · have hl0 : xs = [] := by
      rw [List.length_map] at hb
      rcases xs with _ | ⟨x, l⟩
      · rfl
      · have := hb (by simp); rw [e] at this; cases this
    subst hl0
    simp only [go_sem,Nat.reduceAdd,Nat.reduceSub,Nat.reduceMul,Nat.reduceEqDiff,Nat.reduceLeDiff,Nat.reduceLT,↓reduceIte,Int.reduceToNat,reduceCtorEq,Int.reduceLT,Int.reduceLE,Int.reduceGT,Int.reduceGE,Int.reduceEq,Int.reduceNe,Int.reduceNeg,Int.reduceAdd,Int.reduceSub]
    refine .le (.ret (.nil true false 0 1 (by simp))) .nil (.done ?_)
    rw [← hpost]
    exact ⟨rfl, rfl⟩
  · have e5 : xs.length ≤ 68719476736 := by omega
    simp only [go_sem,Nat.reduceAdd,Nat.reduceSub,Nat.reduceMul,Nat.reduceEqDiff,Nat.reduceLeDiff,Nat.reduceLT,↓reduceIte,Int.reduceToNat,reduceCtorEq,Int.reduceLT,Int.reduceLE,Int.reduceGT,Int.reduceGE,Int.reduceEq,Int.reduceNe,Int.reduceNeg,Int.reduceAdd,Int.reduceSub,List.length_map,e5]
    refine up_one 1 1 (xs.map rb) rfl (rb_lt0 _) (by simp [Out.fzOk, AV.fzOk]) ?_ ?_
    · simp [Out.fz, AV.fz, Out.lt, AV.lt]
    · rw [← hpost]
      have e4 : (xs.map rb).take xs.length = xs.map rb := List.take_of_length_le (by simp)
      simp [Out.fz, AV.fz, e4]
/-- Within the space. -/
theorem flt_in {s : Sp} {pos perm : Int} (hpos : I64 pos) (hb : s.byt.length ≤ 2048) : ∀ (m i : Nat), i ≤ 100000 → m ≤ 100000 → (0 ≤ pos ∧ pos + i ≤ s.byt.length ∨ i = 0) → (s.flt pos perm m i).kind = 0 → m = 0 ∨ (0 ≤ pos ∧ pos + i + m ≤ s.byt.length)
  | 0, i, _, _, _, _ => .inl rfl
  | m + 1, i, hi, hm, h0, h => by
    rw [Sp.flt] at h
    split at h
    · rename_i h1
      have hx : s.has (iw .i64 (pos + i)) = true := by
        unfold Sp.bad1 at h1
        split at h1
        · assumption
        · cases h1
      have hw : iw .i64 (pos + i) = pos + i := by
        rcases h0 with h0 | rfl
        · exact iw64 (by omega) (by omega)
        · rw [show pos + ((0 : Nat) : Int) = pos by simp]; exact hpos.iw
      simp only [hw, Sp.has, Bool.and_eq_true, decide_eq_true_eq] at hx
      have hp0 : 0 ≤ pos := by rcases h0 with h0 | rfl <;> omega
      rcases flt_in hpos hb m (i + 1) (by omega) (by omega) (.inl ⟨hp0, by omega⟩) h with rfl | h2
      · exact .inr ⟨hp0, by omega⟩
      · exact .inr ⟨hp0, by omega⟩
    · rename_i h1; exact absurd h h1
def Sp.sub (s : Sp) (pos : Int) (n : Nat) : List UInt8 := (s.byt.drop pos.toNat).take n
theorem peek_c (s : Sp) (hs : s.ok) (pos : Int) (hpos : I64 pos) (n : Nat) (hn : n ≤ 2048) (h0 : n ≠ 0) (hf : (s.flt pos 0 n 0).kind = 0) :
    ACalls Tryd.prog 127 [s.av, iv pos, iv n] [] (fun o H => o = .ret (.tuple [.view false 1 ((s.sub pos n).map rb), .agg [iv 0, iv 0], iv 0]) ∧ H = []) := by
  refine ACalls.up ?_
  refine ACalls.intro (cs := []) (n := 45) Tryd.func127 rfl rfl rfl (by kernel_rfl) rfl ?_
  generalize hpost : (fun (o : Out) (H : Heap) => o = Out.ret (.tuple [.view false 1 ((s.sub pos n).map rb), .agg [iv 0, iv 0], iv 0]) ∧ H = []) = post
  simp only [go_sem,Nat.reduceAdd,Nat.reduceSub,Nat.reduceMul,Nat.reduceEqDiff,Nat.reduceLeDiff,Nat.reduceLT,↓reduceIte,Int.reduceToNat,reduceCtorEq,Int.reduceLT,Int.reduceLE,Int.reduceGT,Int.reduceGE,Int.reduceEq,Int.reduceNe,Int.reduceNeg,Int.reduceAdd,Int.reduceSub,Sp.av]
  refine rK_use (enters_of Tryd.func50 rfl (by decide)) (ACalls.pure_use (mcheck_c s) rfl rfl) ?_
  rw [Sp.chk_ok hs]
  have h1 : ¬ ((n : Int) < 0) := by omega
  have h2 : ¬ ((2048 : Int) < n) := by omega
  have h3 : ¬ ((n : Int) = 0) := by omega
  have hl := hs.len
  have hp32 := hs.p32
  simp only [go_sem,Nat.reduceAdd,Nat.reduceSub,Nat.reduceMul,Nat.reduceEqDiff,Nat.reduceLeDiff,Nat.reduceLT,↓reduceIte,Int.reduceToNat,reduceCtorEq,Int.reduceLT,Int.reduceLE,Int.reduceGT,Int.reduceGE,Int.reduceEq,Int.reduceNe,Int.reduceNeg,Int.reduceAdd,Int.reduceSub,h1,h2]
  refine rK_use (enters_of Tryd.func94 rfl (by decide)) (ACalls.pure_use (faults_c s hs pos 0 n (by omega) (by simp)) rfl rfl) ?_
  rw [flt0 _ _ _ _ _ hf]
  simp only [go_sem,Nat.reduceAdd,Nat.reduceSub,Nat.reduceMul,Nat.reduceEqDiff,Nat.reduceLeDiff,Nat.reduceLT,↓reduceIte,Int.reduceToNat,reduceCtorEq,Int.reduceLT,Int.reduceLE,Int.reduceGT,Int.reduceGE,Int.reduceEq,Int.reduceNe,Int.reduceNeg,Int.reduceAdd,Int.reduceSub,Flt.cells,h3]
  have hin := (flt_in (perm := 0) hpos (by omega) n 0 (by omega) (by omega) (.inr rfl) hf).resolve_left h0
  have e1 : iw .i64 (pos + n) = pos + n := iw64 (by omega) (by omega)
  have e2 : pos ≤ pos + n := by omega
  have e3 : pos + n ≤ s.byt.length := by omega
  simp only [go_sem,Nat.reduceAdd,Nat.reduceSub,Nat.reduceMul,Nat.reduceEqDiff,Nat.reduceLeDiff,Nat.reduceLT,↓reduceIte,Int.reduceToNat,reduceCtorEq,Int.reduceLT,Int.reduceLE,Int.reduceGT,Int.reduceGE,Int.reduceEq,Int.reduceNe,Int.reduceNeg,Int.reduceAdd,Int.reduceSub,e1,e2,e3,hin.1,List.length_map]
  have e4 : ((s.byt.map rb).take (pos + n).toNat).drop pos.toNat = (s.sub pos n).map rb := by
    rw [← List.map_take, ← List.map_drop, Sp.sub, List.drop_take]
    congr 2
    omega
  rw [e4]
  refine rK_use (enters_of Tryd.func128 rfl (by decide)) (ACalls.pure_use (cloneB_c (s.sub pos n) false (by simp [Sp.sub]; omega)) rfl rfl) ?_
  simp only [go_sem,Nat.reduceAdd,Nat.reduceSub,Nat.reduceMul,Nat.reduceEqDiff,Nat.reduceLeDiff,Nat.reduceLT,↓reduceIte,Int.reduceToNat,reduceCtorEq,Int.reduceLT,Int.reduceLE,Int.reduceGT,Int.reduceGE,Int.reduceEq,Int.reduceNe,Int.reduceNeg,Int.reduceAdd,Int.reduceSub]
  exact finv rfl (by rw [← hpost]; exact ⟨rfl, rfl⟩) _
end Go.Proofs.YtojfnagfafoiaaaDoor

set_option maxRecDepth 100000
set_option linter.unusedVariables false
set_option linter.unusedSimpArgs false
namespace Go.Proofs.YtojfnagfafoiaaaDoor
open Go.AM
theorem toList_loop (bs : ByteArray) : ∀ (n i : Nat) (r : List UInt8), n = bs.size - i → ByteArray.toList.loop bs i r = r.reverse ++ bs.data.toList.drop i
  | 0, i, r, h => by
    rw [ByteArray.toList.loop, if_neg (by omega), List.drop_eq_nil_of_le (by rw [Array.length_toList]; exact (by omega : bs.size ≤ i)), List.append_nil]
  | n + 1, i, r, h => by
    have hlt : i < bs.size := by omega
    have hlt' : i < bs.data.toList.length := by rw [Array.length_toList]; exact hlt
    rw [ByteArray.toList.loop, if_pos hlt, toList_loop bs n (i + 1) _ (by omega), List.drop_eq_getElem_cons hlt']
    have : bs.get! i = bs.data.toList[i] := by
      have h2 : i < bs.data.size := hlt
      simp [ByteArray.get!, getElem!_pos bs.data i h2]
    rw [this]
    simp
theorem toList_eq (bs : ByteArray) : bs.toList = bs.data.toList := by
  rw [ByteArray.toList, toList_loop bs _ 0 [] rfl]; simp
def ktab : List (List UInt8 × Int) := [([], 0), ([110, 111, 112], 0), ([109, 111, 118, 101], 1), ([115, 101, 116], 3), ([108, 105, 116], 4), ([97, 100, 100], 1), ([115, 117, 98], 1), ([109, 117, 108], 1), ([100, 105, 118], 1), ([109, 111, 100], 1), ([97, 110, 100], 1), ([111, 114], 1), ([120, 111, 114], 1), ([115, 104, 108], 1), ([115, 104, 114], 1), ([115, 97, 114], 1), ([105, 110, 99], 4), ([108, 111, 97, 100, 49], 5), ([108, 111, 97, 100, 56], 5), ([115, 116, 111, 114, 101, 49], 5), ([115, 116, 111, 114, 101, 56], 5), ([98, 101, 113], 5), ([98, 110, 101], 5), ([98, 108, 116], 5), ([98, 103, 101], 5), ([106, 117, 109, 112], 6), ([106, 117, 109, 112, 114], 2), ([99, 97, 108, 108], 6), ([99, 97, 108, 108, 114], 2), ([114, 101, 116], 0), ([112, 117, 115, 104], 2), ([112, 111, 112], 2), ([108, 101, 97], 7), ([115, 121, 115], 8), ([115, 119, 97, 112], 1)]
def kcells : List AV := ktab.flatMap fun k => [.str ⟨k.1.toArray⟩, iv k.2]
theorem gAV0 : gAV 0 = .cptr kcells 0 := rfl
theorem kcells_len : kcells.length = 70 := rfl
/-- The form of an operation. -/
def kfm (op : Int) : Int := if op = 76 then 0 else ((ktab[op.toNat]?).getD ([], 0)).2
def isOp (op : Int) : Bool := decide (op = 76) || (decide (1 ≤ op) && decide (op < 35))
def kname (op : Int) : ByteArray := if op = 76 then ⟨#[98, 114, 101, 97, 107]⟩ else if 1 ≤ op ∧ op < 35 then ⟨((ktab[op.toNat]?).getD ([], 0)).1.toArray⟩ else ⟨#[]⟩
def kform (op : Int) : Int := if isOp op = true then kfm op else 0
theorem krow : ∀ i, i < 35 → (kcells.drop (i * 2)).take 2 = [.str ⟨((ktab[i]?).getD ([], 0)).1.toArray⟩, iv ((ktab[i]?).getD ([], 0)).2]
  | 0, _ => rfl
  | 1, _ => rfl
  | 2, _ => rfl
  | 3, _ => rfl
  | 4, _ => rfl
  | 5, _ => rfl
  | 6, _ => rfl
  | 7, _ => rfl
  | 8, _ => rfl
  | 9, _ => rfl
  | 10, _ => rfl
  | 11, _ => rfl
  | 12, _ => rfl
  | 13, _ => rfl
  | 14, _ => rfl
  | 15, _ => rfl
  | 16, _ => rfl
  | 17, _ => rfl
  | 18, _ => rfl
  | 19, _ => rfl
  | 20, _ => rfl
  | 21, _ => rfl
  | 22, _ => rfl
  | 23, _ => rfl
  | 24, _ => rfl
  | 25, _ => rfl
  | 26, _ => rfl
  | 27, _ => rfl
  | 28, _ => rfl
  | 29, _ => rfl
  | 30, _ => rfl
  | 31, _ => rfl
  | 32, _ => rfl
  | 33, _ => rfl
  | 34, _ => rfl
  | n + 35, h => absurd h (by omega)
theorem ktab_ne : ∀ i, 0 < i → i < 35 → ((ktab[i]?).getD ([], 0)).1 ≠ [] := by
  have : ∀ i, i < 35 → 0 < i → ((ktab[i]?).getD ([], 0)).1 ≠ [] := by decide
  exact fun i h1 h2 => this i h2 h1
theorem kname_eq (op : Int) : ((kname op).toList == (⟨#[]⟩ : ByteArray).toList) = !isOp op := by
  rw [toList_eq, toList_eq]
  unfold kname isOp
  by_cases h1 : op = 76
  · subst h1; rfl
  · rw [if_neg h1]
    by_cases h2 : 1 ≤ op ∧ op < 35
    · rw [if_pos h2]
      have := ktab_ne op.toNat (by omega) (by omega)
      simp [h1, h2]
      exact this
    · rw [if_neg h2]
      simp [h1]
      omega
theorem kind_c (op : Int) : ACalls Tryd.prog 63 [iv op] [] (fun o H => o = .ret (.agg [.str (kname op), iv (kform op)]) ∧ H = []) := by
  refine ACalls.up ?_
  refine ACalls.intro (cs := []) (n := 16) Tryd.func63 rfl rfl rfl (by kernel_rfl) rfl ?_
  generalize hpost : (fun (o : Out) (H : Heap) => o = Out.ret (.agg [.str (kname op), iv (kform op)]) ∧ H = []) = post
  have fin : ∀ (s : ByteArray) n H, s = kname op → n = kform op → Up 0 post (.ret (.agg [.str s, iv n])) H := fun s n H e1 e2 => finv rfl (by rw [← hpost, e1, e2]; exact ⟨rfl, rfl⟩) H
  simp only [go_sem,Nat.reduceAdd,Nat.reduceSub,Nat.reduceMul,Nat.reduceEqDiff,Nat.reduceLeDiff,Nat.reduceLT,↓reduceIte,Int.reduceToNat,reduceCtorEq,Int.reduceLT,Int.reduceLE,Int.reduceGT,Int.reduceGE,Int.reduceEq,Int.reduceNe,Int.reduceNeg,Int.reduceAdd,Int.reduceSub]
  repeat' (first | (refine gD_dec (fun hg => ?_) (fun hg => ?_) <;> simp only [go_sem,Nat.reduceAdd,Nat.reduceSub,Nat.reduceMul,Nat.reduceEqDiff,Nat.reduceLeDiff,Nat.reduceLT,↓reduceIte,Int.reduceToNat,reduceCtorEq,Int.reduceLT,Int.reduceLE,Int.reduceGT,Int.reduceGE,Int.reduceEq,Int.reduceNe,Int.reduceNeg,Int.reduceAdd,Int.reduceSub,hg]) | (refine condD_dec (fun hg => ?_) (fun hg => ?_) <;> simp only [go_sem,Nat.reduceAdd,Nat.reduceSub,Nat.reduceMul,Nat.reduceEqDiff,Nat.reduceLeDiff,Nat.reduceLT,↓reduceIte,Int.reduceToNat,reduceCtorEq,Int.reduceLT,Int.reduceLE,Int.reduceGT,Int.reduceGE,Int.reduceEq,Int.reduceNe,Int.reduceNeg,Int.reduceAdd,Int.reduceSub,hg]))
  · exact fin _ _ _ (by rw [kname, if_pos hg]) (by rw [kform, kfm, if_pos hg]; simp)
  · rename_i h1
    exact fin _ _ _ (by rw [kname, if_neg h1, if_neg (by omega)]) (by rw [kform, if_neg (by simp [isOp]; omega)])
  · rename_i h2 h1
    exact fin _ _ _ (by rw [kname, if_neg h2, if_neg (by omega)]) (by rw [kform, if_neg (by simp [isOp]; omega)])
  · rename_i h2 h1
    obtain ⟨k, rfl⟩ : ∃ k : Nat, op = k := ⟨op.toNat, by omega⟩
    have h3 : (0 : Int) ≤ k ∧ (k : Int) < 35 := by omega
    have h4 : k * 2 + 2 ≤ kcells.length := by rw [kcells_len]; omega
    simp only [go_sem,Nat.reduceAdd,Nat.reduceSub,Nat.reduceMul,Nat.reduceEqDiff,Nat.reduceLeDiff,Nat.reduceLT,↓reduceIte,Int.reduceToNat,reduceCtorEq,Int.reduceLT,Int.reduceLE,Int.reduceGT,Int.reduceGE,Int.reduceEq,Int.reduceNe,Int.reduceNeg,Int.reduceAdd,Int.reduceSub,gAV0,h3,h4,krow k (by omega)]
    exact fin _ _ _ (by rw [kname, if_neg h2, if_pos (by omega)]; rfl) (by rw [kform, if_pos (by simp [isOp]; omega), kfm, if_neg h2]; rfl)
def hasA (f : Int) : Bool := (decide (1 ≤ f) && decide (f ≤ 5)) || decide (f = 7)
def hasB (f : Int) : Bool := decide (f = 1) || decide (f = 5)
def bytesOf (f : Int) : Nat := if f = 3 then 10 else if f = 4 ∨ f = 5 ∨ f = 8 then 1 else if f = 6 ∨ f = 7 then 2 else 0
def fits (f n : Int) : Bool := if f = 3 then true else if f = 8 then decide (0 ≤ n) && decide (n ≤ 127) else if bytesOf f = 0 then decide (n = 0) else if bytesOf f = 1 then decide (-64 ≤ n) && decide (n < 64) else decide (-8192 ≤ n) && decide (n < 8192)
theorem hasA_c (f : Int) : ACalls Tryd.prog 65 [iv f] [] (fun o H => o = .ret (.bool (hasA f)) ∧ H = []) := by
  refine ACalls.up ?_
  refine ACalls.intro (cs := []) (n := 13) Tryd.func65 rfl rfl rfl (by kernel_rfl) rfl ?_
  generalize hpost : (fun (o : Out) (H : Heap) => o = Out.ret (.bool (hasA f)) ∧ H = []) = post
  have fin : ∀ b H, b = hasA f → Up 0 post (.ret (.bool b)) H := fun n H e => finv rfl (by rw [← hpost, e]; exact ⟨rfl, rfl⟩) H
  simp only [go_sem,Nat.reduceAdd,Nat.reduceSub,Nat.reduceMul,Nat.reduceEqDiff,Nat.reduceLeDiff,Nat.reduceLT,↓reduceIte,Int.reduceToNat,reduceCtorEq,Int.reduceLT,Int.reduceLE,Int.reduceGT,Int.reduceGE,Int.reduceEq,Int.reduceNe,Int.reduceNeg,Int.reduceAdd,Int.reduceSub]
  repeat' (first | (refine gD_dec (fun hg => ?_) (fun hg => ?_) <;> simp only [go_sem,Nat.reduceAdd,Nat.reduceSub,Nat.reduceMul,Nat.reduceEqDiff,Nat.reduceLeDiff,Nat.reduceLT,↓reduceIte,Int.reduceToNat,reduceCtorEq,Int.reduceLT,Int.reduceLE,Int.reduceGT,Int.reduceGE,Int.reduceEq,Int.reduceNe,Int.reduceNeg,Int.reduceAdd,Int.reduceSub,hg]) | (refine condD_dec (fun hg => ?_) (fun hg => ?_) <;> simp only [go_sem,Nat.reduceAdd,Nat.reduceSub,Nat.reduceMul,Nat.reduceEqDiff,Nat.reduceLeDiff,Nat.reduceLT,↓reduceIte,Int.reduceToNat,reduceCtorEq,Int.reduceLT,Int.reduceLE,Int.reduceGT,Int.reduceGE,Int.reduceEq,Int.reduceNe,Int.reduceNeg,Int.reduceAdd,Int.reduceSub,hg]))
  all_goals exact fin _ _ (by simp [hasA, *])
theorem hasB_c (f : Int) : ACalls Tryd.prog 66 [iv f] [] (fun o H => o = .ret (.bool (hasB f)) ∧ H = []) := by
  refine ACalls.up ?_
  refine ACalls.intro (cs := []) (n := 9) Tryd.func66 rfl rfl rfl (by kernel_rfl) rfl ?_
  generalize hpost : (fun (o : Out) (H : Heap) => o = Out.ret (.bool (hasB f)) ∧ H = []) = post
  have fin : ∀ b H, b = hasB f → Up 0 post (.ret (.bool b)) H := fun n H e => finv rfl (by rw [← hpost, e]; exact ⟨rfl, rfl⟩) H
  simp only [go_sem,Nat.reduceAdd,Nat.reduceSub,Nat.reduceMul,Nat.reduceEqDiff,Nat.reduceLeDiff,Nat.reduceLT,↓reduceIte,Int.reduceToNat,reduceCtorEq,Int.reduceLT,Int.reduceLE,Int.reduceGT,Int.reduceGE,Int.reduceEq,Int.reduceNe,Int.reduceNeg,Int.reduceAdd,Int.reduceSub]
  repeat' (first | (refine gD_dec (fun hg => ?_) (fun hg => ?_) <;> simp only [go_sem,Nat.reduceAdd,Nat.reduceSub,Nat.reduceMul,Nat.reduceEqDiff,Nat.reduceLeDiff,Nat.reduceLT,↓reduceIte,Int.reduceToNat,reduceCtorEq,Int.reduceLT,Int.reduceLE,Int.reduceGT,Int.reduceGE,Int.reduceEq,Int.reduceNe,Int.reduceNeg,Int.reduceAdd,Int.reduceSub,hg]) | (refine condD_dec (fun hg => ?_) (fun hg => ?_) <;> simp only [go_sem,Nat.reduceAdd,Nat.reduceSub,Nat.reduceMul,Nat.reduceEqDiff,Nat.reduceLeDiff,Nat.reduceLT,↓reduceIte,Int.reduceToNat,reduceCtorEq,Int.reduceLT,Int.reduceLE,Int.reduceGT,Int.reduceGE,Int.reduceEq,Int.reduceNe,Int.reduceNeg,Int.reduceAdd,Int.reduceSub,hg]))
  all_goals exact fin _ _ (by simp [hasB, *])
theorem bytesOf_c (f : Int) : ACalls Tryd.prog 93 [iv f] [] (fun o H => o = .ret (iv (bytesOf f)) ∧ H = []) := by
  refine ACalls.up ?_
  refine ACalls.intro (cs := []) (n := 13) Tryd.func93 rfl rfl rfl (by kernel_rfl) rfl ?_
  generalize hpost : (fun (o : Out) (H : Heap) => o = Out.ret (iv (bytesOf f)) ∧ H = []) = post
  have fin : ∀ n H, n = (bytesOf f : Int) → Up 0 post (.ret (iv n)) H := fun n H e => finv rfl (by rw [← hpost, e]; exact ⟨rfl, rfl⟩) H
  simp only [go_sem,Nat.reduceAdd,Nat.reduceSub,Nat.reduceMul,Nat.reduceEqDiff,Nat.reduceLeDiff,Nat.reduceLT,↓reduceIte,Int.reduceToNat,reduceCtorEq,Int.reduceLT,Int.reduceLE,Int.reduceGT,Int.reduceGE,Int.reduceEq,Int.reduceNe,Int.reduceNeg,Int.reduceAdd,Int.reduceSub]
  repeat' (first | (refine gD_dec (fun hg => ?_) (fun hg => ?_) <;> simp only [go_sem,Nat.reduceAdd,Nat.reduceSub,Nat.reduceMul,Nat.reduceEqDiff,Nat.reduceLeDiff,Nat.reduceLT,↓reduceIte,Int.reduceToNat,reduceCtorEq,Int.reduceLT,Int.reduceLE,Int.reduceGT,Int.reduceGE,Int.reduceEq,Int.reduceNe,Int.reduceNeg,Int.reduceAdd,Int.reduceSub,hg]) | (refine condD_dec (fun hg => ?_) (fun hg => ?_) <;> simp only [go_sem,Nat.reduceAdd,Nat.reduceSub,Nat.reduceMul,Nat.reduceEqDiff,Nat.reduceLeDiff,Nat.reduceLT,↓reduceIte,Int.reduceToNat,reduceCtorEq,Int.reduceLT,Int.reduceLE,Int.reduceGT,Int.reduceGE,Int.reduceEq,Int.reduceNe,Int.reduceNeg,Int.reduceAdd,Int.reduceSub,hg]))
  all_goals exact fin _ _ (by simp [bytesOf, *])
theorem bytesOf_le (f : Int) : bytesOf f ≤ 10 := by unfold bytesOf; split <;> (try split) <;> (try split) <;> omega
theorem fits_c (f n : Int) : ACalls Tryd.prog 83 [iv f, iv n] [] (fun o H => o = .ret (.bool (fits f n)) ∧ H = []) := by
  refine ACalls.up ?_
  refine ACalls.intro (cs := []) (n := 36) Tryd.func83 rfl rfl rfl (by kernel_rfl) rfl ?_
  generalize hpost : (fun (o : Out) (H : Heap) => o = Out.ret (.bool (fits f n)) ∧ H = []) = post
  have fin : ∀ b H, b = fits f n → Up 0 post (.ret (.bool b)) H := fun n H e => finv rfl (by rw [← hpost, e]; exact ⟨rfl, rfl⟩) H
  simp only [go_sem,Nat.reduceAdd,Nat.reduceSub,Nat.reduceMul,Nat.reduceEqDiff,Nat.reduceLeDiff,Nat.reduceLT,↓reduceIte,Int.reduceToNat,reduceCtorEq,Int.reduceLT,Int.reduceLE,Int.reduceGT,Int.reduceGE,Int.reduceEq,Int.reduceNe,Int.reduceNeg,Int.reduceAdd,Int.reduceSub]
  repeat' (first | (refine gD_dec (fun hg => ?_) (fun hg => ?_) <;> simp only [go_sem,Nat.reduceAdd,Nat.reduceSub,Nat.reduceMul,Nat.reduceEqDiff,Nat.reduceLeDiff,Nat.reduceLT,↓reduceIte,Int.reduceToNat,reduceCtorEq,Int.reduceLT,Int.reduceLE,Int.reduceGT,Int.reduceGE,Int.reduceEq,Int.reduceNe,Int.reduceNeg,Int.reduceAdd,Int.reduceSub,hg]) | (refine condD_dec (fun hg => ?_) (fun hg => ?_) <;> simp only [go_sem,Nat.reduceAdd,Nat.reduceSub,Nat.reduceMul,Nat.reduceEqDiff,Nat.reduceLeDiff,Nat.reduceLT,↓reduceIte,Int.reduceToNat,reduceCtorEq,Int.reduceLT,Int.reduceLE,Int.reduceGT,Int.reduceGE,Int.reduceEq,Int.reduceNe,Int.reduceNeg,Int.reduceAdd,Int.reduceSub,hg]))
  case refine_1 => exact fin _ _ (by rw [fits, if_pos hg])
  all_goals first | exact fin _ _ (by simp [fits, *]) | skip
  have h3 : ¬ f = 3 := by assumption
  have h8 : ¬ f = 8 := by assumption
  refine rK_use (enters_of Tryd.func93 rfl (by decide)) (ACalls.pure_use (bytesOf_c f) rfl rfl) ?_
  have hb : bytesOf f = 0 ∨ bytesOf f = 1 ∨ bytesOf f = 2 := by unfold bytesOf; rw [if_neg h3]; split <;> (try split) <;> simp
  rcases hb with hb | hb | hb
  all_goals
    rw [hb]
    simp only [go_sem,Nat.reduceAdd,Nat.reduceSub,Nat.reduceMul,Nat.reduceEqDiff,Nat.reduceLeDiff,Nat.reduceLT,↓reduceIte,Int.reduceToNat,reduceCtorEq,Int.reduceLT,Int.reduceLE,Int.reduceGT,Int.reduceGE,Int.reduceEq,Int.reduceNe,Int.reduceNeg,Int.reduceAdd,Int.reduceSub,show iw .i64 (-64) = -64 from by decide,show iw .i64 (-8192) = -8192 from by decide]
    repeat' (first | (refine gD_dec (fun hg => ?_) (fun hg => ?_) <;> simp only [go_sem,Nat.reduceAdd,Nat.reduceSub,Nat.reduceMul,Nat.reduceEqDiff,Nat.reduceLeDiff,Nat.reduceLT,↓reduceIte,Int.reduceToNat,reduceCtorEq,Int.reduceLT,Int.reduceLE,Int.reduceGT,Int.reduceGE,Int.reduceEq,Int.reduceNe,Int.reduceNeg,Int.reduceAdd,Int.reduceSub,hg]) | (refine condD_dec (fun hg => ?_) (fun hg => ?_) <;> simp only [go_sem,Nat.reduceAdd,Nat.reduceSub,Nat.reduceMul,Nat.reduceEqDiff,Nat.reduceLeDiff,Nat.reduceLT,↓reduceIte,Int.reduceToNat,reduceCtorEq,Int.reduceLT,Int.reduceLE,Int.reduceGT,Int.reduceGE,Int.reduceEq,Int.reduceNe,Int.reduceNeg,Int.reduceAdd,Int.reduceSub,hg]))
  all_goals exact fin _ _ (by simp [fits, *])
end Go.Proofs.YtojfnagfafoiaaaDoor

set_option maxRecDepth 100000
set_option linter.unusedVariables false
set_option linter.unusedSimpArgs false
namespace Go.Proofs.YtojfnagfafoiaaaDoor
open Go.AM
structure Ins where
  op : Int
  a : Int
  b : Int
  imm : Int
def Ins.cells (x : Ins) : List AV := [iv x.op, iv x.a, iv x.b, iv x.imm]
def Ins.av (x : Ins) : AV := .agg x.cells
structure Ins.ok (x : Ins) : Prop where
  op : isOp x.op = true
  a0 : 0 ≤ x.a
  a7 : x.a ≤ 7
  b0 : 0 ≤ x.b
  b7 : x.b ≤ 7
  ha : hasA (kform x.op) = true ∨ x.a = 0
  hb : hasB (kform x.op) = true ∨ x.b = 0
  im : fits (kform x.op) x.imm = true
instance (x : Ins) : Decidable x.ok := decidable_of_iff (isOp x.op = true ∧ 0 ≤ x.a ∧ x.a ≤ 7 ∧ 0 ≤ x.b ∧ x.b ≤ 7 ∧ (hasA (kform x.op) = true ∨ x.a = 0) ∧ (hasB (kform x.op) = true ∨ x.b = 0) ∧ fits (kform x.op) x.imm = true)
  ⟨fun h => ⟨h.1, h.2.1, h.2.2.1, h.2.2.2.1, h.2.2.2.2.1, h.2.2.2.2.2.1, h.2.2.2.2.2.2.1, h.2.2.2.2.2.2.2⟩, fun h => ⟨h.1, h.2, h.3, h.4, h.5, h.6, h.7, h.8⟩⟩
def Ins.chk (x : Ins) : Int := if x.ok then 0 else 20
theorem icheck_c (x : Ins) : ACalls Tryd.prog 51 [x.av] [] (fun o H => o = .ret (iv x.chk) ∧ H = []) := by
  refine ACalls.up ?_
  refine ACalls.intro (cs := []) (n := 60) Tryd.func51 rfl rfl rfl (by kernel_rfl) rfl ?_
  generalize hpost : (fun (o : Out) (H : Heap) => o = Out.ret (iv x.chk) ∧ H = []) = post
  have fin : ∀ n H, n = x.chk → Up 0 post (.ret (iv n)) H := fun n H e => finv rfl (by rw [← hpost, e]; exact ⟨rfl, rfl⟩) H
  simp only [go_sem,Nat.reduceAdd,Nat.reduceSub,Nat.reduceMul,Nat.reduceEqDiff,Nat.reduceLeDiff,Nat.reduceLT,↓reduceIte,Int.reduceToNat,reduceCtorEq,Int.reduceLT,Int.reduceLE,Int.reduceGT,Int.reduceGE,Int.reduceEq,Int.reduceNe,Int.reduceNeg,Int.reduceAdd,Int.reduceSub,Ins.av,Ins.cells]
  refine rK_use (enters_of Tryd.func63 rfl (by decide)) (ACalls.pure_use (kind_c x.op) rfl rfl) ?_
  simp only [go_sem,Nat.reduceAdd,Nat.reduceSub,Nat.reduceMul,Nat.reduceEqDiff,Nat.reduceLeDiff,Nat.reduceLT,↓reduceIte,Int.reduceToNat,reduceCtorEq,Int.reduceLT,Int.reduceLE,Int.reduceGT,Int.reduceGE,Int.reduceEq,Int.reduceNe,Int.reduceNeg,Int.reduceAdd,Int.reduceSub,kname_eq]
  repeat' (first | (refine gD_dec (fun hg => ?_) (fun hg => ?_) <;> simp only [go_sem,Nat.reduceAdd,Nat.reduceSub,Nat.reduceMul,Nat.reduceEqDiff,Nat.reduceLeDiff,Nat.reduceLT,↓reduceIte,Int.reduceToNat,reduceCtorEq,Int.reduceLT,Int.reduceLE,Int.reduceGT,Int.reduceGE,Int.reduceEq,Int.reduceNe,Int.reduceNeg,Int.reduceAdd,Int.reduceSub,hg,kname_eq]) | (refine condD_dec (fun hg => ?_) (fun hg => ?_) <;> simp only [go_sem,Nat.reduceAdd,Nat.reduceSub,Nat.reduceMul,Nat.reduceEqDiff,Nat.reduceLeDiff,Nat.reduceLT,↓reduceIte,Int.reduceToNat,reduceCtorEq,Int.reduceLT,Int.reduceLE,Int.reduceGT,Int.reduceGE,Int.reduceEq,Int.reduceNe,Int.reduceNeg,Int.reduceAdd,Int.reduceSub,hg,kname_eq]) | (refine rK_use (enters_of Tryd.func65 rfl (by decide)) (ACalls.pure_use (hasA_c _) rfl rfl) ?_; simp only [go_sem,Nat.reduceAdd,Nat.reduceSub,Nat.reduceMul,Nat.reduceEqDiff,Nat.reduceLeDiff,Nat.reduceLT,↓reduceIte,Int.reduceToNat,reduceCtorEq,Int.reduceLT,Int.reduceLE,Int.reduceGT,Int.reduceGE,Int.reduceEq,Int.reduceNe,Int.reduceNeg,Int.reduceAdd,Int.reduceSub,kname_eq]) | (refine rK_use (enters_of Tryd.func66 rfl (by decide)) (ACalls.pure_use (hasB_c _) rfl rfl) ?_; simp only [go_sem,Nat.reduceAdd,Nat.reduceSub,Nat.reduceMul,Nat.reduceEqDiff,Nat.reduceLeDiff,Nat.reduceLT,↓reduceIte,Int.reduceToNat,reduceCtorEq,Int.reduceLT,Int.reduceLE,Int.reduceGT,Int.reduceGE,Int.reduceEq,Int.reduceNe,Int.reduceNeg,Int.reduceAdd,Int.reduceSub,kname_eq]) | (refine rK_use (enters_of Tryd.func83 rfl (by decide)) (ACalls.pure_use (fits_c _ _) rfl rfl) ?_; simp only [go_sem,Nat.reduceAdd,Nat.reduceSub,Nat.reduceMul,Nat.reduceEqDiff,Nat.reduceLeDiff,Nat.reduceLT,↓reduceIte,Int.reduceToNat,reduceCtorEq,Int.reduceLT,Int.reduceLE,Int.reduceGT,Int.reduceGE,Int.reduceEq,Int.reduceNe,Int.reduceNeg,Int.reduceAdd,Int.reduceSub,kname_eq]) | (refine gD_bool (fun hg => ?_) (fun hg => ?_) <;> simp only [go_sem,Nat.reduceAdd,Nat.reduceSub,Nat.reduceMul,Nat.reduceEqDiff,Nat.reduceLeDiff,Nat.reduceLT,↓reduceIte,Int.reduceToNat,reduceCtorEq,Int.reduceLT,Int.reduceLE,Int.reduceGT,Int.reduceGE,Int.reduceEq,Int.reduceNe,Int.reduceNeg,Int.reduceAdd,Int.reduceSub,hg,kname_eq]) | (refine condD_bool (fun hg => ?_) (fun hg => ?_) <;> simp only [go_sem,Nat.reduceAdd,Nat.reduceSub,Nat.reduceMul,Nat.reduceEqDiff,Nat.reduceLeDiff,Nat.reduceLT,↓reduceIte,Int.reduceToNat,reduceCtorEq,Int.reduceLT,Int.reduceLE,Int.reduceGT,Int.reduceGE,Int.reduceEq,Int.reduceNe,Int.reduceNeg,Int.reduceAdd,Int.reduceSub,hg,kname_eq]))
  all_goals first
    | exact fin 20 _ (by rw [Ins.chk, if_neg]; rintro ⟨h1, h2, h3, h4, h5, h6, h7, h8⟩; simp_all <;> omega)
    | exact fin 0 _ (by rw [Ins.chk, if_pos]; constructor <;> first | omega | (simp_all; done) | (right; omega))
def flen (f : Int) : Nat := 1 + bytesOf f + (if hasA f = true then 1 else 0)
theorem flen_le (f : Int) : flen f ≤ 12 := by have := bytesOf_le f; unfold flen; split <;> omega
theorem flength_c (f : Int) : ACalls Tryd.prog 62 [iv f] [] (fun o H => o = .ret (iv (flen f)) ∧ H = []) := by
  refine ACalls.up ?_
  refine ACalls.intro (cs := []) (n := 12) Tryd.func62 rfl rfl rfl (by kernel_rfl) rfl ?_
  generalize hpost : (fun (o : Out) (H : Heap) => o = Out.ret (iv (flen f)) ∧ H = []) = post
  have fin : ∀ n H, n = (flen f : Int) → Up 0 post (.ret (iv n)) H := fun n H e => finv rfl (by rw [← hpost, e]; exact ⟨rfl, rfl⟩) H
  have hb := bytesOf_le f
  have e1 : iw .i64 (1 + (bytesOf f : Int)) = 1 + (bytesOf f : Int) := iw64 (by omega) (by omega)
  have e2 : iw .i64 (1 + (bytesOf f : Int) + 1) = 1 + (bytesOf f : Int) + 1 := iw64 (by omega) (by omega)
  simp only [go_sem,Nat.reduceAdd,Nat.reduceSub,Nat.reduceMul,Nat.reduceEqDiff,Nat.reduceLeDiff,Nat.reduceLT,↓reduceIte,Int.reduceToNat,reduceCtorEq,Int.reduceLT,Int.reduceLE,Int.reduceGT,Int.reduceGE,Int.reduceEq,Int.reduceNe,Int.reduceNeg,Int.reduceAdd,Int.reduceSub]
  repeat' (first | (refine gD_dec (fun hg => ?_) (fun hg => ?_) <;> simp only [go_sem,Nat.reduceAdd,Nat.reduceSub,Nat.reduceMul,Nat.reduceEqDiff,Nat.reduceLeDiff,Nat.reduceLT,↓reduceIte,Int.reduceToNat,reduceCtorEq,Int.reduceLT,Int.reduceLE,Int.reduceGT,Int.reduceGE,Int.reduceEq,Int.reduceNe,Int.reduceNeg,Int.reduceAdd,Int.reduceSub,hg,e1,e2]) | (refine condD_dec (fun hg => ?_) (fun hg => ?_) <;> simp only [go_sem,Nat.reduceAdd,Nat.reduceSub,Nat.reduceMul,Nat.reduceEqDiff,Nat.reduceLeDiff,Nat.reduceLT,↓reduceIte,Int.reduceToNat,reduceCtorEq,Int.reduceLT,Int.reduceLE,Int.reduceGT,Int.reduceGE,Int.reduceEq,Int.reduceNe,Int.reduceNeg,Int.reduceAdd,Int.reduceSub,hg,e1,e2]) | (refine rK_use (enters_of Tryd.func65 rfl (by decide)) (ACalls.pure_use (hasA_c _) rfl rfl) ?_; simp only [go_sem,Nat.reduceAdd,Nat.reduceSub,Nat.reduceMul,Nat.reduceEqDiff,Nat.reduceLeDiff,Nat.reduceLT,↓reduceIte,Int.reduceToNat,reduceCtorEq,Int.reduceLT,Int.reduceLE,Int.reduceGT,Int.reduceGE,Int.reduceEq,Int.reduceNe,Int.reduceNeg,Int.reduceAdd,Int.reduceSub,e1,e2]) | (refine rK_use (enters_of Tryd.func93 rfl (by decide)) (ACalls.pure_use (bytesOf_c _) rfl rfl) ?_; simp only [go_sem,Nat.reduceAdd,Nat.reduceSub,Nat.reduceMul,Nat.reduceEqDiff,Nat.reduceLeDiff,Nat.reduceLT,↓reduceIte,Int.reduceToNat,reduceCtorEq,Int.reduceLT,Int.reduceLE,Int.reduceGT,Int.reduceGE,Int.reduceEq,Int.reduceNe,Int.reduceNeg,Int.reduceAdd,Int.reduceSub,e1,e2]) | (refine gD_bool (fun hg => ?_) (fun hg => ?_) <;> simp only [go_sem,Nat.reduceAdd,Nat.reduceSub,Nat.reduceMul,Nat.reduceEqDiff,Nat.reduceLeDiff,Nat.reduceLT,↓reduceIte,Int.reduceToNat,reduceCtorEq,Int.reduceLT,Int.reduceLE,Int.reduceGT,Int.reduceGE,Int.reduceEq,Int.reduceNe,Int.reduceNeg,Int.reduceAdd,Int.reduceSub,hg,e1,e2]) | (refine condD_bool (fun hg => ?_) (fun hg => ?_) <;> simp only [go_sem,Nat.reduceAdd,Nat.reduceSub,Nat.reduceMul,Nat.reduceEqDiff,Nat.reduceLeDiff,Nat.reduceLT,↓reduceIte,Int.reduceToNat,reduceCtorEq,Int.reduceLT,Int.reduceLE,Int.reduceGT,Int.reduceGE,Int.reduceEq,Int.reduceNe,Int.reduceNeg,Int.reduceAdd,Int.reduceSub,hg,e1,e2]))
  all_goals exact fin _ _ (by simp [flen, *])
def Ins.len (x : Ins) : Nat := flen (kform x.op)
theorem ilen_c (x : Ins) (hx : x.ok) : ACalls Tryd.prog 24 [x.av] [] (fun o H => o = .ret (.tuple [iv x.len, iv 0]) ∧ H = []) := by
  refine ACalls.up ?_
  refine ACalls.intro (cs := []) (n := 15) Tryd.func24 rfl rfl rfl (by kernel_rfl) rfl ?_
  generalize hpost : (fun (o : Out) (H : Heap) => o = Out.ret (.tuple [iv x.len, iv 0]) ∧ H = []) = post
  simp only [go_sem,Nat.reduceAdd,Nat.reduceSub,Nat.reduceMul,Nat.reduceEqDiff,Nat.reduceLeDiff,Nat.reduceLT,↓reduceIte,Int.reduceToNat,reduceCtorEq,Int.reduceLT,Int.reduceLE,Int.reduceGT,Int.reduceGE,Int.reduceEq,Int.reduceNe,Int.reduceNeg,Int.reduceAdd,Int.reduceSub,Ins.av,Ins.cells]
  refine rK_use (enters_of Tryd.func51 rfl (by decide)) (ACalls.pure_use (icheck_c x) rfl rfl) ?_
  rw [Ins.chk, if_pos hx]
  simp only [go_sem,Nat.reduceAdd,Nat.reduceSub,Nat.reduceMul,Nat.reduceEqDiff,Nat.reduceLeDiff,Nat.reduceLT,↓reduceIte,Int.reduceToNat,reduceCtorEq,Int.reduceLT,Int.reduceLE,Int.reduceGT,Int.reduceGE,Int.reduceEq,Int.reduceNe,Int.reduceNeg,Int.reduceAdd,Int.reduceSub]
  refine rK_use (enters_of Tryd.func63 rfl (by decide)) (ACalls.pure_use (kind_c x.op) rfl rfl) ?_
  simp only [go_sem,Nat.reduceAdd,Nat.reduceSub,Nat.reduceMul,Nat.reduceEqDiff,Nat.reduceLeDiff,Nat.reduceLT,↓reduceIte,Int.reduceToNat,reduceCtorEq,Int.reduceLT,Int.reduceLE,Int.reduceGT,Int.reduceGE,Int.reduceEq,Int.reduceNe,Int.reduceNeg,Int.reduceAdd,Int.reduceSub]
  refine rK_use (enters_of Tryd.func62 rfl (by decide)) (ACalls.pure_use (flength_c _) rfl rfl) ?_
  simp only [go_sem,Nat.reduceAdd,Nat.reduceSub,Nat.reduceMul,Nat.reduceEqDiff,Nat.reduceLeDiff,Nat.reduceLT,↓reduceIte,Int.reduceToNat,reduceCtorEq,Int.reduceLT,Int.reduceLE,Int.reduceGT,Int.reduceGE,Int.reduceEq,Int.reduceNe,Int.reduceNeg,Int.reduceAdd,Int.reduceSub]
  exact finv rfl (by rw [← hpost]; exact ⟨rfl, rfl⟩) _
/-- The length, or an error. -/
def Ins.lenR (x : Ins) : AV := if x.ok then .tuple [iv x.len, iv 0] else .tuple [iv 0, iv 20]
theorem ilen_n (x : Ins) (hx : ¬ x.ok) : ACalls Tryd.prog 24 [x.av] [] (fun o H => o = .ret (.tuple [iv 0, iv 20]) ∧ H = []) := by
  refine ACalls.up ?_
  refine ACalls.intro (cs := []) (n := 15) Tryd.func24 rfl rfl rfl (by kernel_rfl) rfl ?_
  generalize hpost : (fun (o : Out) (H : Heap) => o = Out.ret (.tuple [iv 0, iv 20]) ∧ H = []) = post
  simp only [go_sem,Nat.reduceAdd,Nat.reduceSub,Nat.reduceMul,Nat.reduceEqDiff,Nat.reduceLeDiff,Nat.reduceLT,↓reduceIte,Int.reduceToNat,reduceCtorEq,Int.reduceLT,Int.reduceLE,Int.reduceGT,Int.reduceGE,Int.reduceEq,Int.reduceNe,Int.reduceNeg,Int.reduceAdd,Int.reduceSub,Ins.av,Ins.cells]
  refine rK_use (enters_of Tryd.func51 rfl (by decide)) (ACalls.pure_use (icheck_c x) rfl rfl) ?_
  rw [Ins.chk, if_neg hx]
  simp only [go_sem,Nat.reduceAdd,Nat.reduceSub,Nat.reduceMul,Nat.reduceEqDiff,Nat.reduceLeDiff,Nat.reduceLT,↓reduceIte,Int.reduceToNat,reduceCtorEq,Int.reduceLT,Int.reduceLE,Int.reduceGT,Int.reduceGE,Int.reduceEq,Int.reduceNe,Int.reduceNeg,Int.reduceAdd,Int.reduceSub]
  exact finv rfl (by rw [← hpost]; exact ⟨rfl, rfl⟩) _
def isBr (op : Int) : Bool := (decide (21 ≤ op) && decide (op ≤ 25)) || decide (op = 27) || decide (op = 32)
theorem isBranch_c (op : Int) : ACalls Tryd.prog 75 [iv op] [] (fun o H => o = .ret (.bool (isBr op)) ∧ H = []) := by
  refine ACalls.up ?_
  refine ACalls.intro (cs := []) (n := 17) Tryd.func75 rfl rfl rfl (by kernel_rfl) rfl ?_
  generalize hpost : (fun (o : Out) (H : Heap) => o = Out.ret (.bool (isBr op)) ∧ H = []) = post
  have fin : ∀ b H, b = isBr op → Up 0 post (.ret (.bool b)) H := fun n H e => finv rfl (by rw [← hpost, e]; exact ⟨rfl, rfl⟩) H
  simp only [go_sem,Nat.reduceAdd,Nat.reduceSub,Nat.reduceMul,Nat.reduceEqDiff,Nat.reduceLeDiff,Nat.reduceLT,↓reduceIte,Int.reduceToNat,reduceCtorEq,Int.reduceLT,Int.reduceLE,Int.reduceGT,Int.reduceGE,Int.reduceEq,Int.reduceNe,Int.reduceNeg,Int.reduceAdd,Int.reduceSub]
  repeat' (first | (refine gD_dec (fun hg => ?_) (fun hg => ?_) <;> simp only [go_sem,Nat.reduceAdd,Nat.reduceSub,Nat.reduceMul,Nat.reduceEqDiff,Nat.reduceLeDiff,Nat.reduceLT,↓reduceIte,Int.reduceToNat,reduceCtorEq,Int.reduceLT,Int.reduceLE,Int.reduceGT,Int.reduceGE,Int.reduceEq,Int.reduceNe,Int.reduceNeg,Int.reduceAdd,Int.reduceSub,hg]) | (refine condD_dec (fun hg => ?_) (fun hg => ?_) <;> simp only [go_sem,Nat.reduceAdd,Nat.reduceSub,Nat.reduceMul,Nat.reduceEqDiff,Nat.reduceLeDiff,Nat.reduceLT,↓reduceIte,Int.reduceToNat,reduceCtorEq,Int.reduceLT,Int.reduceLE,Int.reduceGT,Int.reduceGE,Int.reduceEq,Int.reduceNe,Int.reduceNeg,Int.reduceAdd,Int.reduceSub,hg]))
  all_goals exact fin _ _ (by simp [isBr, *])
/-- The target, and whether there is one. -/
def Ins.tgt (x : Ins) (next : Int) : Int := if x.ok ∧ isBr x.op = true then iw .i64 (next + x.imm) else 0
def Ins.hasT (x : Ins) : Bool := decide x.ok && isBr x.op
theorem chk_ne {x : Ins} : (x.chk ≠ 0) = ¬ x.ok := by unfold Ins.chk; split <;> simp [*]
theorem chk_eq {x : Ins} : (x.chk = 0) = x.ok := by unfold Ins.chk; split <;> simp [*]
theorem target_c (x : Ins) (next : Int) : ACalls Tryd.prog 38 [x.av, iv next] [] (fun o H => o = .ret (.tuple [iv (x.tgt next), .bool x.hasT]) ∧ H = []) := by
  refine ACalls.up ?_
  refine ACalls.intro (cs := []) (n := 19) Tryd.func38 rfl rfl rfl (by kernel_rfl) rfl ?_
  generalize hpost : (fun (o : Out) (H : Heap) => o = Out.ret (.tuple [iv (x.tgt next), .bool x.hasT]) ∧ H = []) = post
  have fin : ∀ n b H, n = x.tgt next → b = x.hasT → Up 0 post (.ret (.tuple [iv n, .bool b])) H := fun n b H e1 e2 => finv rfl (by rw [← hpost, e1, e2]; exact ⟨rfl, rfl⟩) H
  simp only [go_sem,Nat.reduceAdd,Nat.reduceSub,Nat.reduceMul,Nat.reduceEqDiff,Nat.reduceLeDiff,Nat.reduceLT,↓reduceIte,Int.reduceToNat,reduceCtorEq,Int.reduceLT,Int.reduceLE,Int.reduceGT,Int.reduceGE,Int.reduceEq,Int.reduceNe,Int.reduceNeg,Int.reduceAdd,Int.reduceSub,Ins.av,Ins.cells]
  refine rK_use (enters_of Tryd.func51 rfl (by decide)) (ACalls.pure_use (icheck_c x) rfl rfl) ?_
  rcases Decidable.em x.ok with hx | hx
  · rw [Ins.chk, if_pos hx]
    simp only [go_sem,Nat.reduceAdd,Nat.reduceSub,Nat.reduceMul,Nat.reduceEqDiff,Nat.reduceLeDiff,Nat.reduceLT,↓reduceIte,Int.reduceToNat,reduceCtorEq,Int.reduceLT,Int.reduceLE,Int.reduceGT,Int.reduceGE,Int.reduceEq,Int.reduceNe,Int.reduceNeg,Int.reduceAdd,Int.reduceSub]
    repeat' (first | (refine gD_dec (fun hg => ?_) (fun hg => ?_) <;> simp only [go_sem,Nat.reduceAdd,Nat.reduceSub,Nat.reduceMul,Nat.reduceEqDiff,Nat.reduceLeDiff,Nat.reduceLT,↓reduceIte,Int.reduceToNat,reduceCtorEq,Int.reduceLT,Int.reduceLE,Int.reduceGT,Int.reduceGE,Int.reduceEq,Int.reduceNe,Int.reduceNeg,Int.reduceAdd,Int.reduceSub,hg,Ins.cells]) | (refine condD_dec (fun hg => ?_) (fun hg => ?_) <;> simp only [go_sem,Nat.reduceAdd,Nat.reduceSub,Nat.reduceMul,Nat.reduceEqDiff,Nat.reduceLeDiff,Nat.reduceLT,↓reduceIte,Int.reduceToNat,reduceCtorEq,Int.reduceLT,Int.reduceLE,Int.reduceGT,Int.reduceGE,Int.reduceEq,Int.reduceNe,Int.reduceNeg,Int.reduceAdd,Int.reduceSub,hg,Ins.cells]) | (refine rK_use (enters_of Tryd.func75 rfl (by decide)) (ACalls.pure_use (isBranch_c _) rfl rfl) ?_; simp only [go_sem,Nat.reduceAdd,Nat.reduceSub,Nat.reduceMul,Nat.reduceEqDiff,Nat.reduceLeDiff,Nat.reduceLT,↓reduceIte,Int.reduceToNat,reduceCtorEq,Int.reduceLT,Int.reduceLE,Int.reduceGT,Int.reduceGE,Int.reduceEq,Int.reduceNe,Int.reduceNeg,Int.reduceAdd,Int.reduceSub,Ins.cells]) | (refine gD_bool (fun hg => ?_) (fun hg => ?_) <;> simp only [go_sem,Nat.reduceAdd,Nat.reduceSub,Nat.reduceMul,Nat.reduceEqDiff,Nat.reduceLeDiff,Nat.reduceLT,↓reduceIte,Int.reduceToNat,reduceCtorEq,Int.reduceLT,Int.reduceLE,Int.reduceGT,Int.reduceGE,Int.reduceEq,Int.reduceNe,Int.reduceNeg,Int.reduceAdd,Int.reduceSub,hg,Ins.cells]) | (refine condD_bool (fun hg => ?_) (fun hg => ?_) <;> simp only [go_sem,Nat.reduceAdd,Nat.reduceSub,Nat.reduceMul,Nat.reduceEqDiff,Nat.reduceLeDiff,Nat.reduceLT,↓reduceIte,Int.reduceToNat,reduceCtorEq,Int.reduceLT,Int.reduceLE,Int.reduceGT,Int.reduceGE,Int.reduceEq,Int.reduceNe,Int.reduceNeg,Int.reduceAdd,Int.reduceSub,hg,Ins.cells]))
    all_goals exact fin _ _ _ (by simp_all [Ins.tgt]) (by simp_all [Ins.hasT])
  · rw [Ins.chk, if_neg hx]
    simp only [go_sem,Nat.reduceAdd,Nat.reduceSub,Nat.reduceMul,Nat.reduceEqDiff,Nat.reduceLeDiff,Nat.reduceLT,↓reduceIte,Int.reduceToNat,reduceCtorEq,Int.reduceLT,Int.reduceLE,Int.reduceGT,Int.reduceGE,Int.reduceEq,Int.reduceNe,Int.reduceNeg,Int.reduceAdd,Int.reduceSub]
    exact fin _ _ _ (by rw [Ins.tgt, if_neg (fun h => hx h.1)]) (by simp [Ins.hasT, hx])
def Ins.rel (x : Ins) : Bool := decide x.ok && (isBr x.op || decide (x.op = 28))
theorem relative_c (x : Ins) : ACalls Tryd.prog 37 [x.av] [] (fun o H => o = .ret (.bool x.rel) ∧ H = []) := by
  refine ACalls.up ?_
  refine ACalls.intro (cs := []) (n := 16) Tryd.func37 rfl rfl rfl (by kernel_rfl) rfl ?_
  generalize hpost : (fun (o : Out) (H : Heap) => o = Out.ret (.bool x.rel) ∧ H = []) = post
  have fin : ∀ b H, b = x.rel → Up 0 post (.ret (.bool b)) H := fun n H e => finv rfl (by rw [← hpost, e]; exact ⟨rfl, rfl⟩) H
  simp only [go_sem,Nat.reduceAdd,Nat.reduceSub,Nat.reduceMul,Nat.reduceEqDiff,Nat.reduceLeDiff,Nat.reduceLT,↓reduceIte,Int.reduceToNat,reduceCtorEq,Int.reduceLT,Int.reduceLE,Int.reduceGT,Int.reduceGE,Int.reduceEq,Int.reduceNe,Int.reduceNeg,Int.reduceAdd,Int.reduceSub,Ins.av,Ins.cells]
  refine rK_use (enters_of Tryd.func51 rfl (by decide)) (ACalls.pure_use (icheck_c x) rfl rfl) ?_
  rcases Decidable.em x.ok with hx | hx
  · rw [Ins.chk, if_pos hx]
    simp only [go_sem,Nat.reduceAdd,Nat.reduceSub,Nat.reduceMul,Nat.reduceEqDiff,Nat.reduceLeDiff,Nat.reduceLT,↓reduceIte,Int.reduceToNat,reduceCtorEq,Int.reduceLT,Int.reduceLE,Int.reduceGT,Int.reduceGE,Int.reduceEq,Int.reduceNe,Int.reduceNeg,Int.reduceAdd,Int.reduceSub]
    repeat' (first | (refine gD_dec (fun hg => ?_) (fun hg => ?_) <;> simp only [go_sem,Nat.reduceAdd,Nat.reduceSub,Nat.reduceMul,Nat.reduceEqDiff,Nat.reduceLeDiff,Nat.reduceLT,↓reduceIte,Int.reduceToNat,reduceCtorEq,Int.reduceLT,Int.reduceLE,Int.reduceGT,Int.reduceGE,Int.reduceEq,Int.reduceNe,Int.reduceNeg,Int.reduceAdd,Int.reduceSub,hg,Ins.cells]) | (refine condD_dec (fun hg => ?_) (fun hg => ?_) <;> simp only [go_sem,Nat.reduceAdd,Nat.reduceSub,Nat.reduceMul,Nat.reduceEqDiff,Nat.reduceLeDiff,Nat.reduceLT,↓reduceIte,Int.reduceToNat,reduceCtorEq,Int.reduceLT,Int.reduceLE,Int.reduceGT,Int.reduceGE,Int.reduceEq,Int.reduceNe,Int.reduceNeg,Int.reduceAdd,Int.reduceSub,hg,Ins.cells]) | (refine rK_use (enters_of Tryd.func75 rfl (by decide)) (ACalls.pure_use (isBranch_c _) rfl rfl) ?_; simp only [go_sem,Nat.reduceAdd,Nat.reduceSub,Nat.reduceMul,Nat.reduceEqDiff,Nat.reduceLeDiff,Nat.reduceLT,↓reduceIte,Int.reduceToNat,reduceCtorEq,Int.reduceLT,Int.reduceLE,Int.reduceGT,Int.reduceGE,Int.reduceEq,Int.reduceNe,Int.reduceNeg,Int.reduceAdd,Int.reduceSub,Ins.cells]) | (refine gD_bool (fun hg => ?_) (fun hg => ?_) <;> simp only [go_sem,Nat.reduceAdd,Nat.reduceSub,Nat.reduceMul,Nat.reduceEqDiff,Nat.reduceLeDiff,Nat.reduceLT,↓reduceIte,Int.reduceToNat,reduceCtorEq,Int.reduceLT,Int.reduceLE,Int.reduceGT,Int.reduceGE,Int.reduceEq,Int.reduceNe,Int.reduceNeg,Int.reduceAdd,Int.reduceSub,hg,Ins.cells]) | (refine condD_bool (fun hg => ?_) (fun hg => ?_) <;> simp only [go_sem,Nat.reduceAdd,Nat.reduceSub,Nat.reduceMul,Nat.reduceEqDiff,Nat.reduceLeDiff,Nat.reduceLT,↓reduceIte,Int.reduceToNat,reduceCtorEq,Int.reduceLT,Int.reduceLE,Int.reduceGT,Int.reduceGE,Int.reduceEq,Int.reduceNe,Int.reduceNeg,Int.reduceAdd,Int.reduceSub,hg,Ins.cells]))
    all_goals exact fin _ _ (by simp_all [Ins.rel])
  · rw [Ins.chk, if_neg hx]
    simp only [go_sem,Nat.reduceAdd,Nat.reduceSub,Nat.reduceMul,Nat.reduceEqDiff,Nat.reduceLeDiff,Nat.reduceLT,↓reduceIte,Int.reduceToNat,reduceCtorEq,Int.reduceLT,Int.reduceLE,Int.reduceGT,Int.reduceGE,Int.reduceEq,Int.reduceNe,Int.reduceNeg,Int.reduceAdd,Int.reduceSub]
    exact fin _ _ (by simp [Ins.rel, hx])
end Go.Proofs.YtojfnagfafoiaaaDoor

set_option maxRecDepth 100000
set_option linter.unusedVariables false
set_option linter.unusedSimpArgs false
namespace Go.Proofs.YtojfnagfafoiaaaDoor
open Go.AM
def rtab : List Int := [0, 1, 2, 3, 4, 2, 2, 2, 2, 2, 2, 2, 2, 2, 2, 2, 4, 5, 5, 5, 5, 6, 6, 6, 6, 7, 8, 7, 8, 1, 8, 8, 9, 10, 11]
def rform (op : Int) : Int := if isOp op = true then (if op = 76 then 1 else (rtab[op.toNat]?).getD 0) else 0
theorem rform_no {op : Int} (h : ¬ isOp op = true) : rform op = 0 := if_neg h
theorem form_c (op : Int) : ACalls Tryd.prog 70 [iv op] [] (fun o H => o = .ret (iv (rform op)) ∧ H = []) := by
  refine ACalls.up ?_
  refine ACalls.intro (cs := []) (n := 50) Tryd.func70 rfl rfl rfl (by kernel_rfl) rfl ?_
  generalize hpost : (fun (o : Out) (H : Heap) => o = Out.ret (iv (rform op)) ∧ H = []) = post
  have fin : ∀ n H, n = rform op → Up 0 post (.ret (iv n)) H := fun n H e => finv rfl (by rw [← hpost, e]; exact ⟨rfl, rfl⟩) H
  simp only [go_sem,Nat.reduceAdd,Nat.reduceSub,Nat.reduceMul,Nat.reduceEqDiff,Nat.reduceLeDiff,Nat.reduceLT,↓reduceIte,Int.reduceToNat,reduceCtorEq,Int.reduceLT,Int.reduceLE,Int.reduceGT,Int.reduceGE,Int.reduceEq,Int.reduceNe,Int.reduceNeg,Int.reduceAdd,Int.reduceSub]
  repeat' (first | (refine gD_dec (fun hg => ?_) (fun hg => ?_) <;> simp only [go_sem,Nat.reduceAdd,Nat.reduceSub,Nat.reduceMul,Nat.reduceEqDiff,Nat.reduceLeDiff,Nat.reduceLT,↓reduceIte,Int.reduceToNat,reduceCtorEq,Int.reduceLT,Int.reduceLE,Int.reduceGT,Int.reduceGE,Int.reduceEq,Int.reduceNe,Int.reduceNeg,Int.reduceAdd,Int.reduceSub,hg]) | (refine condD_dec (fun hg => ?_) (fun hg => ?_) <;> simp only [go_sem,Nat.reduceAdd,Nat.reduceSub,Nat.reduceMul,Nat.reduceEqDiff,Nat.reduceLeDiff,Nat.reduceLT,↓reduceIte,Int.reduceToNat,reduceCtorEq,Int.reduceLT,Int.reduceLE,Int.reduceGT,Int.reduceGE,Int.reduceEq,Int.reduceNe,Int.reduceNeg,Int.reduceAdd,Int.reduceSub,hg]))
  all_goals first
    | (subst hg; exact fin _ _ rfl)
    | exact fin _ _ (by rw [rform_no]; simp [isOp]; omega)
def opA (f : Int) : Bool := decide (f = 2) || decide (f = 11) || decide (f = 3) || decide (f = 4) || decide (f = 5) || decide (f = 6) || decide (f = 8) || decide (f = 9)
def opB (f : Int) : Bool := decide (f = 2) || decide (f = 11) || decide (f = 5) || decide (f = 6)
def opK (f : Int) : Nat := if f = 3 then 10 else if f = 4 ∨ f = 5 ∨ f = 6 ∨ f = 10 then 1 else if f = 7 ∨ f = 9 then 2 else 0
theorem operands_c (f : Int) : ACalls Tryd.prog 72 [iv f] [] (fun o H => o = .ret (.tuple [.bool (opA f), .bool (opB f), iv (opK f)]) ∧ H = []) := by
  refine ACalls.up ?_
  refine ACalls.intro (cs := []) (n := 24) Tryd.func72 rfl rfl rfl (by kernel_rfl) rfl ?_
  generalize hpost : (fun (o : Out) (H : Heap) => o = Out.ret (.tuple [.bool (opA f), .bool (opB f), iv (opK f)]) ∧ H = []) = post
  have fin : ∀ a b n H, a = opA f → b = opB f → n = (opK f : Int) → Up 0 post (.ret (.tuple [.bool a, .bool b, iv n])) H := fun a b n H e1 e2 e3 => finv rfl (by rw [← hpost, e1, e2, e3]; exact ⟨rfl, rfl⟩) H
  simp only [go_sem,Nat.reduceAdd,Nat.reduceSub,Nat.reduceMul,Nat.reduceEqDiff,Nat.reduceLeDiff,Nat.reduceLT,↓reduceIte,Int.reduceToNat,reduceCtorEq,Int.reduceLT,Int.reduceLE,Int.reduceGT,Int.reduceGE,Int.reduceEq,Int.reduceNe,Int.reduceNeg,Int.reduceAdd,Int.reduceSub]
  repeat' (first | (refine gD_dec (fun hg => ?_) (fun hg => ?_) <;> simp only [go_sem,Nat.reduceAdd,Nat.reduceSub,Nat.reduceMul,Nat.reduceEqDiff,Nat.reduceLeDiff,Nat.reduceLT,↓reduceIte,Int.reduceToNat,reduceCtorEq,Int.reduceLT,Int.reduceLE,Int.reduceGT,Int.reduceGE,Int.reduceEq,Int.reduceNe,Int.reduceNeg,Int.reduceAdd,Int.reduceSub,hg]) | (refine condD_dec (fun hg => ?_) (fun hg => ?_) <;> simp only [go_sem,Nat.reduceAdd,Nat.reduceSub,Nat.reduceMul,Nat.reduceEqDiff,Nat.reduceLeDiff,Nat.reduceLT,↓reduceIte,Int.reduceToNat,reduceCtorEq,Int.reduceLT,Int.reduceLE,Int.reduceGT,Int.reduceGE,Int.reduceEq,Int.reduceNe,Int.reduceNeg,Int.reduceAdd,Int.reduceSub,hg]))
  all_goals first
    | (subst hg; exact fin _ _ _ _ rfl rfl rfl)
    | exact fin _ _ _ _ (by simp [opA, *]) (by simp [opB, *]) (by simp [opK, *])
def rfits (f n : Int) : Bool := if f = 10 then decide (0 ≤ n) && decide (n ≤ 127) else if opK f = 1 then decide (-64 ≤ n) && decide (n ≤ 63) else if opK f = 2 then decide (-8192 ≤ n) && decide (n ≤ 8191) else if opK f = 10 then true else decide (n = 0)
theorem opK_cases (f : Int) : opK f = 0 ∨ opK f = 1 ∨ opK f = 2 ∨ opK f = 10 := by unfold opK; split <;> (try split) <;> (try split) <;> simp
theorem rfits_c (f n : Int) : ACalls Tryd.prog 71 [iv f, iv n] [] (fun o H => o = .ret (.bool (rfits f n)) ∧ H = []) := by
  refine ACalls.up ?_
  refine ACalls.intro (cs := []) (n := 43) Tryd.func71 rfl rfl rfl (by kernel_rfl) rfl ?_
  generalize hpost : (fun (o : Out) (H : Heap) => o = Out.ret (.bool (rfits f n)) ∧ H = []) = post
  have fin : ∀ b H, b = rfits f n → Up 0 post (.ret (.bool b)) H := fun n H e => finv rfl (by rw [← hpost, e]; exact ⟨rfl, rfl⟩) H
  simp only [go_sem,Nat.reduceAdd,Nat.reduceSub,Nat.reduceMul,Nat.reduceEqDiff,Nat.reduceLeDiff,Nat.reduceLT,↓reduceIte,Int.reduceToNat,reduceCtorEq,Int.reduceLT,Int.reduceLE,Int.reduceGT,Int.reduceGE,Int.reduceEq,Int.reduceNe,Int.reduceNeg,Int.reduceAdd,Int.reduceSub]
  refine rK_use (enters_of Tryd.func72 rfl (by decide)) (ACalls.pure_use (operands_c f) rfl rfl) ?_
  rcases opK_cases f with hk | hk | hk | hk
  all_goals
    rw [hk]
    simp only [go_sem,Nat.reduceAdd,Nat.reduceSub,Nat.reduceMul,Nat.reduceEqDiff,Nat.reduceLeDiff,Nat.reduceLT,↓reduceIte,Int.reduceToNat,reduceCtorEq,Int.reduceLT,Int.reduceLE,Int.reduceGT,Int.reduceGE,Int.reduceEq,Int.reduceNe,Int.reduceNeg,Int.reduceAdd,Int.reduceSub]
    repeat' (first | (refine gD_dec (fun hg => ?_) (fun hg => ?_) <;> simp only [go_sem,Nat.reduceAdd,Nat.reduceSub,Nat.reduceMul,Nat.reduceEqDiff,Nat.reduceLeDiff,Nat.reduceLT,↓reduceIte,Int.reduceToNat,reduceCtorEq,Int.reduceLT,Int.reduceLE,Int.reduceGT,Int.reduceGE,Int.reduceEq,Int.reduceNe,Int.reduceNeg,Int.reduceAdd,Int.reduceSub,hg]) | (refine condD_dec (fun hg => ?_) (fun hg => ?_) <;> simp only [go_sem,Nat.reduceAdd,Nat.reduceSub,Nat.reduceMul,Nat.reduceEqDiff,Nat.reduceLeDiff,Nat.reduceLT,↓reduceIte,Int.reduceToNat,reduceCtorEq,Int.reduceLT,Int.reduceLE,Int.reduceGT,Int.reduceGE,Int.reduceEq,Int.reduceNe,Int.reduceNeg,Int.reduceAdd,Int.reduceSub,hg]))
  all_goals exact fin _ _ (by simp [rfits, *])
theorem opcases {op : Int} (h : isOp op = true) : op = 76 ∨ ∃ k : Nat, k < 35 ∧ 1 ≤ k ∧ op = k := by
  simp only [isOp, Bool.or_eq_true, Bool.and_eq_true, decide_eq_true_eq] at h
  rcases h with h | h
  · exact .inl h
  · exact .inr ⟨op.toNat, by omega, by omega, by omega⟩
theorem forms_eq (op : Int) (h : isOp op = true) : rform op ≠ 0 ∧ opA (rform op) = hasA (kform op) ∧ opB (rform op) = hasB (kform op) ∧ opK (rform op) = bytesOf (kform op) ∧ (rform op = 10 ↔ kform op = 8) ∧ (kform op = 3 ↔ bytesOf (kform op) = 10) := by
  rcases opcases h with rfl | ⟨k, h1, h2, rfl⟩
  · decide
  · have : ∀ k : Nat, k < 35 → 1 ≤ k → rform k ≠ 0 ∧ opA (rform k) = hasA (kform k) ∧ opB (rform k) = hasB (kform k) ∧ opK (rform k) = bytesOf (kform k) ∧ (rform k = 10 ↔ kform k = 8) ∧ (kform k = 3 ↔ bytesOf (kform k) = 10) := by decide
    exact this k h1 h2
theorem rform_iff (op : Int) : rform op = 0 ↔ isOp op = false := by
  cases h : isOp op
  · simp [rform_no (op := op) (by rw [h]; decide)]
  · simp [(forms_eq op h).1]
theorem fits_eq (op n : Int) (h : isOp op = true) : rfits (rform op) n = fits (kform op) n := by
  obtain ⟨_, _, _, h4, h5, h6⟩ := forms_eq op h
  unfold rfits fits
  rw [h4]
  by_cases h8 : kform op = 8
  · rw [if_pos (h5.2 h8), if_neg (by omega), if_pos h8]
  · rw [if_neg (fun e => h8 (h5.1 e))]
    by_cases h3 : kform op = 3
    · rw [if_pos h3, h6.1 h3]; rfl
    · have hb : bytesOf (kform op) = 0 ∨ bytesOf (kform op) = 1 ∨ bytesOf (kform op) = 2 := by unfold bytesOf; rw [if_neg h3]; split <;> (try split) <;> simp
      rw [if_neg h3, if_neg h8]
      rcases hb with hb | hb | hb <;> rw [hb, Bool.eq_iff_iff] <;> simp <;> try omega
theorem richeck_c (x : Ins) : ACalls Tryd.prog 30 [x.av] [] (fun o H => o = .ret (iv x.chk) ∧ H = []) := by
  refine ACalls.up ?_
  refine ACalls.intro (cs := []) (n := 67) Tryd.func30 rfl rfl rfl (by kernel_rfl) rfl ?_
  generalize hpost : (fun (o : Out) (H : Heap) => o = Out.ret (iv x.chk) ∧ H = []) = post
  have fin : ∀ n H, n = x.chk → Up 0 post (.ret (iv n)) H := fun n H e => finv rfl (by rw [← hpost, e]; exact ⟨rfl, rfl⟩) H
  simp only [go_sem,Nat.reduceAdd,Nat.reduceSub,Nat.reduceMul,Nat.reduceEqDiff,Nat.reduceLeDiff,Nat.reduceLT,↓reduceIte,Int.reduceToNat,reduceCtorEq,Int.reduceLT,Int.reduceLE,Int.reduceGT,Int.reduceGE,Int.reduceEq,Int.reduceNe,Int.reduceNeg,Int.reduceAdd,Int.reduceSub,Ins.av,Ins.cells]
  refine rK_use (enters_of Tryd.func70 rfl (by decide)) (ACalls.pure_use (form_c x.op) rfl rfl) ?_
  have no : ¬ isOp x.op = true → (20 : Int) = x.chk := fun h => by rw [Ins.chk, if_neg (fun hx => h hx.op)]
  rcases Decidable.em (isOp x.op = true) with ho | ho
  · obtain ⟨h1, h2, h3, h4, h5, h6⟩ := forms_eq x.op ho
    have h7 := fits_eq x.op x.imm ho
    simp only [go_sem,Nat.reduceAdd,Nat.reduceSub,Nat.reduceMul,Nat.reduceEqDiff,Nat.reduceLeDiff,Nat.reduceLT,↓reduceIte,Int.reduceToNat,reduceCtorEq,Int.reduceLT,Int.reduceLE,Int.reduceGT,Int.reduceGE,Int.reduceEq,Int.reduceNe,Int.reduceNeg,Int.reduceAdd,Int.reduceSub,h1,h2,h3,h7]
    repeat' (first | (refine gD_dec (fun hg => ?_) (fun hg => ?_) <;> simp only [go_sem,Nat.reduceAdd,Nat.reduceSub,Nat.reduceMul,Nat.reduceEqDiff,Nat.reduceLeDiff,Nat.reduceLT,↓reduceIte,Int.reduceToNat,reduceCtorEq,Int.reduceLT,Int.reduceLE,Int.reduceGT,Int.reduceGE,Int.reduceEq,Int.reduceNe,Int.reduceNeg,Int.reduceAdd,Int.reduceSub,hg,h1,h2,h3,h7]) | (refine condD_dec (fun hg => ?_) (fun hg => ?_) <;> simp only [go_sem,Nat.reduceAdd,Nat.reduceSub,Nat.reduceMul,Nat.reduceEqDiff,Nat.reduceLeDiff,Nat.reduceLT,↓reduceIte,Int.reduceToNat,reduceCtorEq,Int.reduceLT,Int.reduceLE,Int.reduceGT,Int.reduceGE,Int.reduceEq,Int.reduceNe,Int.reduceNeg,Int.reduceAdd,Int.reduceSub,hg,h1,h2,h3,h7]) | (refine rK_use (enters_of Tryd.func71 rfl (by decide)) (ACalls.pure_use (rfits_c _ _) rfl rfl) ?_; simp only [go_sem,Nat.reduceAdd,Nat.reduceSub,Nat.reduceMul,Nat.reduceEqDiff,Nat.reduceLeDiff,Nat.reduceLT,↓reduceIte,Int.reduceToNat,reduceCtorEq,Int.reduceLT,Int.reduceLE,Int.reduceGT,Int.reduceGE,Int.reduceEq,Int.reduceNe,Int.reduceNeg,Int.reduceAdd,Int.reduceSub,h1,h2,h3,h7]) | (refine rK_use (enters_of Tryd.func72 rfl (by decide)) (ACalls.pure_use (operands_c _) rfl rfl) ?_; simp only [go_sem,Nat.reduceAdd,Nat.reduceSub,Nat.reduceMul,Nat.reduceEqDiff,Nat.reduceLeDiff,Nat.reduceLT,↓reduceIte,Int.reduceToNat,reduceCtorEq,Int.reduceLT,Int.reduceLE,Int.reduceGT,Int.reduceGE,Int.reduceEq,Int.reduceNe,Int.reduceNeg,Int.reduceAdd,Int.reduceSub,h1,h2,h3,h7]) | (refine gD_bool (fun hg => ?_) (fun hg => ?_) <;> simp only [go_sem,Nat.reduceAdd,Nat.reduceSub,Nat.reduceMul,Nat.reduceEqDiff,Nat.reduceLeDiff,Nat.reduceLT,↓reduceIte,Int.reduceToNat,reduceCtorEq,Int.reduceLT,Int.reduceLE,Int.reduceGT,Int.reduceGE,Int.reduceEq,Int.reduceNe,Int.reduceNeg,Int.reduceAdd,Int.reduceSub,hg,h1,h2,h3,h7]) | (refine condD_bool (fun hg => ?_) (fun hg => ?_) <;> simp only [go_sem,Nat.reduceAdd,Nat.reduceSub,Nat.reduceMul,Nat.reduceEqDiff,Nat.reduceLeDiff,Nat.reduceLT,↓reduceIte,Int.reduceToNat,reduceCtorEq,Int.reduceLT,Int.reduceLE,Int.reduceGT,Int.reduceGE,Int.reduceEq,Int.reduceNe,Int.reduceNeg,Int.reduceAdd,Int.reduceSub,hg,h1,h2,h3,h7]))
    all_goals first
      | exact fin 20 _ (by rw [Ins.chk, if_neg]; rintro ⟨k1, k2, k3, k4, k5, k6, k7, k8⟩; simp_all <;> omega)
      | exact fin 0 _ (by rw [Ins.chk, if_pos]; constructor <;> first | omega | (simp_all; done) | (right; omega) | (left; simp_all; done))
  · rw [rform_no ho]
    simp only [go_sem,Nat.reduceAdd,Nat.reduceSub,Nat.reduceMul,Nat.reduceEqDiff,Nat.reduceLeDiff,Nat.reduceLT,↓reduceIte,Int.reduceToNat,reduceCtorEq,Int.reduceLT,Int.reduceLE,Int.reduceGT,Int.reduceGE,Int.reduceEq,Int.reduceNe,Int.reduceNeg,Int.reduceAdd,Int.reduceSub]
    exact fin _ _ (no ho)
theorem rilen_c (x : Ins) (hx : x.ok) : ACalls Tryd.prog 35 [x.av] [] (fun o H => o = .ret (iv x.len) ∧ H = []) := by
  refine ACalls.up ?_
  refine ACalls.intro (cs := []) (n := 21) Tryd.func35 rfl rfl rfl (by kernel_rfl) rfl ?_
  generalize hpost : (fun (o : Out) (H : Heap) => o = Out.ret (iv x.len) ∧ H = []) = post
  have fin : ∀ n H, n = (x.len : Int) → Up 0 post (.ret (iv n)) H := fun n H e => finv rfl (by rw [← hpost, e]; exact ⟨rfl, rfl⟩) H
  simp only [go_sem,Nat.reduceAdd,Nat.reduceSub,Nat.reduceMul,Nat.reduceEqDiff,Nat.reduceLeDiff,Nat.reduceLT,↓reduceIte,Int.reduceToNat,reduceCtorEq,Int.reduceLT,Int.reduceLE,Int.reduceGT,Int.reduceGE,Int.reduceEq,Int.reduceNe,Int.reduceNeg,Int.reduceAdd,Int.reduceSub,Ins.av,Ins.cells]
  refine rK_use (enters_of Tryd.func70 rfl (by decide)) (ACalls.pure_use (form_c x.op) rfl rfl) ?_
  simp only [go_sem,Nat.reduceAdd,Nat.reduceSub,Nat.reduceMul,Nat.reduceEqDiff,Nat.reduceLeDiff,Nat.reduceLT,↓reduceIte,Int.reduceToNat,reduceCtorEq,Int.reduceLT,Int.reduceLE,Int.reduceGT,Int.reduceGE,Int.reduceEq,Int.reduceNe,Int.reduceNeg,Int.reduceAdd,Int.reduceSub]
  refine rK_use (enters_of Tryd.func72 rfl (by decide)) (ACalls.pure_use (operands_c _) rfl rfl) ?_
  obtain ⟨h1, h2, h3, h4, h5, h6⟩ := forms_eq x.op hx.op
  have hb := bytesOf_le (kform x.op)
  have e1 : iw .i64 (1 + (bytesOf (kform x.op) : Int)) = 1 + (bytesOf (kform x.op) : Int) := iw64 (by omega) (by omega)
  have e2 : iw .i64 (1 + (bytesOf (kform x.op) : Int) + 1) = 1 + (bytesOf (kform x.op) : Int) + 1 := iw64 (by omega) (by omega)
  rw [h2, h3, h4]
  simp only [go_sem,Nat.reduceAdd,Nat.reduceSub,Nat.reduceMul,Nat.reduceEqDiff,Nat.reduceLeDiff,Nat.reduceLT,↓reduceIte,Int.reduceToNat,reduceCtorEq,Int.reduceLT,Int.reduceLE,Int.reduceGT,Int.reduceGE,Int.reduceEq,Int.reduceNe,Int.reduceNeg,Int.reduceAdd,Int.reduceSub,e1]
  repeat' (first | (refine gD_dec (fun hg => ?_) (fun hg => ?_) <;> simp only [go_sem,Nat.reduceAdd,Nat.reduceSub,Nat.reduceMul,Nat.reduceEqDiff,Nat.reduceLeDiff,Nat.reduceLT,↓reduceIte,Int.reduceToNat,reduceCtorEq,Int.reduceLT,Int.reduceLE,Int.reduceGT,Int.reduceGE,Int.reduceEq,Int.reduceNe,Int.reduceNeg,Int.reduceAdd,Int.reduceSub,hg,e1,e2]) | (refine condD_dec (fun hg => ?_) (fun hg => ?_) <;> simp only [go_sem,Nat.reduceAdd,Nat.reduceSub,Nat.reduceMul,Nat.reduceEqDiff,Nat.reduceLeDiff,Nat.reduceLT,↓reduceIte,Int.reduceToNat,reduceCtorEq,Int.reduceLT,Int.reduceLE,Int.reduceGT,Int.reduceGE,Int.reduceEq,Int.reduceNe,Int.reduceNeg,Int.reduceAdd,Int.reduceSub,hg,e1,e2]) | (refine gD_bool (fun hg => ?_) (fun hg => ?_) <;> simp only [go_sem,Nat.reduceAdd,Nat.reduceSub,Nat.reduceMul,Nat.reduceEqDiff,Nat.reduceLeDiff,Nat.reduceLT,↓reduceIte,Int.reduceToNat,reduceCtorEq,Int.reduceLT,Int.reduceLE,Int.reduceGT,Int.reduceGE,Int.reduceEq,Int.reduceNe,Int.reduceNeg,Int.reduceAdd,Int.reduceSub,hg,e1,e2]) | (refine condD_bool (fun hg => ?_) (fun hg => ?_) <;> simp only [go_sem,Nat.reduceAdd,Nat.reduceSub,Nat.reduceMul,Nat.reduceEqDiff,Nat.reduceLeDiff,Nat.reduceLT,↓reduceIte,Int.reduceToNat,reduceCtorEq,Int.reduceLT,Int.reduceLE,Int.reduceGT,Int.reduceGE,Int.reduceEq,Int.reduceNe,Int.reduceNeg,Int.reduceAdd,Int.reduceSub,hg,e1,e2]))
  all_goals exact fin _ _ (by simp [Ins.len, flen, *])
theorem isBr_eq (op : Int) (h : isOp op = true) : isBr op = (decide (rform op = 6) || decide (rform op = 7) || decide (rform op = 9)) := by
  rcases opcases h with rfl | ⟨k, h1, h2, rfl⟩
  · decide
  · have : ∀ k : Nat, k < 35 → 1 ≤ k → isBr k = (decide (rform k = 6) || decide (rform k = 7) || decide (rform k = 9)) := by decide
    exact this k h1 h2
theorem rtarget_c (x : Ins) (hx : x.ok) (next : Int) : ACalls Tryd.prog 57 [x.av, iv next] [] (fun o H => o = .ret (.tuple [iv (x.tgt next), .bool x.hasT]) ∧ H = []) := by
  refine ACalls.up ?_
  refine ACalls.intro (cs := []) (n := 29) Tryd.func57 rfl rfl rfl (by kernel_rfl) rfl ?_
  generalize hpost : (fun (o : Out) (H : Heap) => o = Out.ret (.tuple [iv (x.tgt next), .bool x.hasT]) ∧ H = []) = post
  have fin : ∀ n b H, n = x.tgt next → b = x.hasT → Up 0 post (.ret (.tuple [iv n, .bool b])) H := fun n b H e1 e2 => finv rfl (by rw [← hpost, e1, e2]; exact ⟨rfl, rfl⟩) H
  have hbr := isBr_eq x.op hx.op
  simp only [go_sem,Nat.reduceAdd,Nat.reduceSub,Nat.reduceMul,Nat.reduceEqDiff,Nat.reduceLeDiff,Nat.reduceLT,↓reduceIte,Int.reduceToNat,reduceCtorEq,Int.reduceLT,Int.reduceLE,Int.reduceGT,Int.reduceGE,Int.reduceEq,Int.reduceNe,Int.reduceNeg,Int.reduceAdd,Int.reduceSub,Ins.av,Ins.cells]
  refine rK_use (enters_of Tryd.func70 rfl (by decide)) (ACalls.pure_use (form_c x.op) rfl rfl) ?_
  simp only [go_sem,Nat.reduceAdd,Nat.reduceSub,Nat.reduceMul,Nat.reduceEqDiff,Nat.reduceLeDiff,Nat.reduceLT,↓reduceIte,Int.reduceToNat,reduceCtorEq,Int.reduceLT,Int.reduceLE,Int.reduceGT,Int.reduceGE,Int.reduceEq,Int.reduceNe,Int.reduceNeg,Int.reduceAdd,Int.reduceSub]
  refine rK_use (enters_of Tryd.func30 rfl (by decide)) (ACalls.pure_use (richeck_c x) rfl rfl) ?_
  rw [Ins.chk, if_pos hx]
  simp only [go_sem,Nat.reduceAdd,Nat.reduceSub,Nat.reduceMul,Nat.reduceEqDiff,Nat.reduceLeDiff,Nat.reduceLT,↓reduceIte,Int.reduceToNat,reduceCtorEq,Int.reduceLT,Int.reduceLE,Int.reduceGT,Int.reduceGE,Int.reduceEq,Int.reduceNe,Int.reduceNeg,Int.reduceAdd,Int.reduceSub]
  repeat' (first | (refine gD_dec (fun hg => ?_) (fun hg => ?_) <;> simp only [go_sem,Nat.reduceAdd,Nat.reduceSub,Nat.reduceMul,Nat.reduceEqDiff,Nat.reduceLeDiff,Nat.reduceLT,↓reduceIte,Int.reduceToNat,reduceCtorEq,Int.reduceLT,Int.reduceLE,Int.reduceGT,Int.reduceGE,Int.reduceEq,Int.reduceNe,Int.reduceNeg,Int.reduceAdd,Int.reduceSub,hg]) | (refine condD_dec (fun hg => ?_) (fun hg => ?_) <;> simp only [go_sem,Nat.reduceAdd,Nat.reduceSub,Nat.reduceMul,Nat.reduceEqDiff,Nat.reduceLeDiff,Nat.reduceLT,↓reduceIte,Int.reduceToNat,reduceCtorEq,Int.reduceLT,Int.reduceLE,Int.reduceGT,Int.reduceGE,Int.reduceEq,Int.reduceNe,Int.reduceNeg,Int.reduceAdd,Int.reduceSub,hg]))
  all_goals exact fin _ _ _ (by simp_all [Ins.tgt]) (by simp_all [Ins.hasT])
end Go.Proofs.YtojfnagfafoiaaaDoor

set_option maxRecDepth 100000
set_option linter.unusedVariables false
set_option linter.unusedSimpArgs false
namespace Go.Proofs.YtojfnagfafoiaaaDoor
open Go.AM
/-- The number whose groups of seven bits are some bytes; v: what stands ahead of them. -/
def immL (b : List UInt8) (v : Int) : Int := b.foldr (fun c v => bOr .i64 (iw .i64 (v * 128)) (c.toNat : Int)) v
def topB (b : List UInt8) : Int := ((b[b.length - 1]?).getD 0).toNat
def imm0 (f : Int) (b : List UInt8) : Int := if f ≠ 8 ∧ 0 < b.length ∧ 64 ≤ topB b then -1 else 0
theorem immL_at {b : List UInt8} {k : Nat} {c : UInt8} (h : b[k]? = some c) (v : Int) : immL (b.drop k) v = bOr .i64 (iw .i64 (immL (b.drop (k + 1)) v * 128)) (c.toNat : Int) := by
  rw [drop_at h]; rfl
theorem iwb (c : UInt8) : iw .i64 (c.toNat : Int) = c.toNat := by have := u8_lt c; exact iw64 (by omega) (by omega)
theorem immOf_c (f : Int) (b : List UInt8) (full : Bool) (hl : b.length ≤ 1000) : ACalls Tryd.prog 67 [iv f, .view full 1 (b.map rb)] [] (fun o H => o = .ret (iv (immL b (imm0 f b))) ∧ H = []) := by
  refine ACalls.up ?_
  refine ACalls.intro (cs := [4]) (n := 39) Tryd.func67 rfl rfl rfl (by kernel_rfl) rfl ?_
  generalize hpost : (fun (o : Out) (H : Heap) => o = Out.ret (iv (immL b (imm0 f b))) ∧ H = []) = post
  simp only [go_sem,Nat.reduceAdd,Nat.reduceSub,Nat.reduceMul,Nat.reduceEqDiff,Nat.reduceLeDiff,Nat.reduceLT,↓reduceIte,Int.reduceToNat,reduceCtorEq,Int.reduceLT,Int.reduceLE,Int.reduceGT,Int.reduceGE,Int.reduceEq,Int.reduceNe,Int.reduceNeg,Int.reduceAdd,Int.reduceSub]
  refine seq_cut (fun _ : Unit => ((Ch.nil.put 1 (.view full 1 (b.map rb))).put 5 (iv (imm0 f b)))) (fun _ => []) (fun _ => True) (by kernel_rfl) ?_ ?_
  · intro K hK
    have e0 : iw .i64 ((b.length : Int) - 1) = (b.length : Int) - 1 := iw64 (by omega) (by omega)
    have fin : ∀ s' H', H' = [] → wkS ((Ch.nil.put 1 (.view full 1 (b.map rb))).put 5 (iv (imm0 f b))) s' → K s' H' := fun s' H' e h => hK () s' H' trivial (by subst e; exact Wk.slots' rfl h)
    simp only [go_sem,Nat.reduceAdd,Nat.reduceSub,Nat.reduceMul,Nat.reduceEqDiff,Nat.reduceLeDiff,Nat.reduceLT,↓reduceIte,Int.reduceToNat,reduceCtorEq,Int.reduceLT,Int.reduceLE,Int.reduceGT,Int.reduceGE,Int.reduceEq,Int.reduceNe,Int.reduceNeg,Int.reduceAdd,Int.reduceSub,List.length_map,e0]
    rcases Decidable.em (f = 8) with h8 | h8
    · simp only [go_sem,Nat.reduceAdd,Nat.reduceSub,Nat.reduceMul,Nat.reduceEqDiff,Nat.reduceLeDiff,Nat.reduceLT,↓reduceIte,Int.reduceToNat,reduceCtorEq,Int.reduceLT,Int.reduceLE,Int.reduceGT,Int.reduceGE,Int.reduceEq,Int.reduceNe,Int.reduceNeg,Int.reduceAdd,Int.reduceSub,h8]
      exact fin _ _ rfl (by simp [wkS, Ch.get, imm0, h8])
    · simp only [go_sem,Nat.reduceAdd,Nat.reduceSub,Nat.reduceMul,Nat.reduceEqDiff,Nat.reduceLeDiff,Nat.reduceLT,↓reduceIte,Int.reduceToNat,reduceCtorEq,Int.reduceLT,Int.reduceLE,Int.reduceGT,Int.reduceGE,Int.reduceEq,Int.reduceNe,Int.reduceNeg,Int.reduceAdd,Int.reduceSub,h8,List.length_map,e0]
      rcases Decidable.em ((0 : Int) < b.length) with h0 | h0
      · obtain ⟨c, hc⟩ := at_lt (l := b) (i := b.length - 1) (by omega)
        have h1 : (0 : Int) ≤ (b.length : Int) - 1 := by omega
        have h2 : (b.length : Int) - 1 < b.length := by omega
        have h3 : ((b.length : Int) - 1).toNat = b.length - 1 := by omega
        simp only [go_sem,Nat.reduceAdd,Nat.reduceSub,Nat.reduceMul,Nat.reduceEqDiff,Nat.reduceLeDiff,Nat.reduceLT,↓reduceIte,Int.reduceToNat,reduceCtorEq,Int.reduceLT,Int.reduceLE,Int.reduceGT,Int.reduceGE,Int.reduceEq,Int.reduceNe,Int.reduceNeg,Int.reduceAdd,Int.reduceSub,h0,h1,h2,h3,List.length_map,List.getElem?_map,hc,e0]
        repeat' (first | (refine gD_dec (fun hg => ?_) (fun hg => ?_) <;> simp only [go_sem,Nat.reduceAdd,Nat.reduceSub,Nat.reduceMul,Nat.reduceEqDiff,Nat.reduceLeDiff,Nat.reduceLT,↓reduceIte,Int.reduceToNat,reduceCtorEq,Int.reduceLT,Int.reduceLE,Int.reduceGT,Int.reduceGE,Int.reduceEq,Int.reduceNe,Int.reduceNeg,Int.reduceAdd,Int.reduceSub,hg]) | (refine condD_dec (fun hg => ?_) (fun hg => ?_) <;> simp only [go_sem,Nat.reduceAdd,Nat.reduceSub,Nat.reduceMul,Nat.reduceEqDiff,Nat.reduceLeDiff,Nat.reduceLT,↓reduceIte,Int.reduceToNat,reduceCtorEq,Int.reduceLT,Int.reduceLE,Int.reduceGT,Int.reduceGE,Int.reduceEq,Int.reduceNe,Int.reduceNeg,Int.reduceAdd,Int.reduceSub,hg]))
        · exact fin _ _ rfl (by simp [wkS, Ch.get, imm0, topB, hc]; omega)
        · exact fin _ _ rfl (by simp [wkS, Ch.get, imm0, topB, hc]; omega)
      · simp only [go_sem,Nat.reduceAdd,Nat.reduceSub,Nat.reduceMul,Nat.reduceEqDiff,Nat.reduceLeDiff,Nat.reduceLT,↓reduceIte,Int.reduceToNat,reduceCtorEq,Int.reduceLT,Int.reduceLE,Int.reduceGT,Int.reduceGE,Int.reduceEq,Int.reduceNe,Int.reduceNeg,Int.reduceAdd,Int.reduceSub,h0,List.length_map]
        exact fin _ _ rfl (by simp [wkS, Ch.get, imm0]; omega)
  · rintro - -
    have e0 : iw .i64 ((b.length : Int) - 1) = (b.length : Int) - 1 := iw64 (by omega) (by omega)
    simp only [go_sem,Nat.reduceAdd,Nat.reduceSub,Nat.reduceMul,Nat.reduceEqDiff,Nat.reduceLeDiff,Nat.reduceLT,↓reduceIte,Int.reduceToNat,reduceCtorEq,Int.reduceLT,Int.reduceLE,Int.reduceGT,Int.reduceGE,Int.reduceEq,Int.reduceNe,Int.reduceNeg,Int.reduceAdd,Int.reduceSub,List.length_map,e0]
    refine loop_fam (fun k : Nat => (((Ch.nil.put 1 (.view full 1 (b.map rb))).put 5 (iv (immL (b.drop k) (imm0 f b)))).put 6 (iv ((k : Int) - 1)))) (fun _ => []) (fun k => k) (fun k => k ≤ b.length) b.length (by kernel_rfl) (Nat.le_refl _)
      (Wk.slots' rfl (by simp [wkS, Ch.get, immL])) ?_
    rintro k hk K hK
    simp only [go_sem,Nat.reduceAdd,Nat.reduceSub,Nat.reduceMul,Nat.reduceEqDiff,Nat.reduceLeDiff,Nat.reduceLT,↓reduceIte,Int.reduceToNat,reduceCtorEq,Int.reduceLT,Int.reduceLE,Int.reduceGT,Int.reduceGE,Int.reduceEq,Int.reduceNe,Int.reduceNeg,Int.reduceAdd,Int.reduceSub]
    refine condD_dec (fun hc => ?_) (fun hc => ?_)
    · obtain ⟨m, rfl⟩ : ∃ m, k = m + 1 := ⟨k - 1, by omega⟩
      obtain ⟨c, hc'⟩ := at_lt (l := b) (i := m) (by omega)
      have e1 : (((m + 1 : Nat) : Int) - 1) = (m : Int) := by omega
      have e2 : (m : Int) < b.length := by omega
      have e3 : iw .i64 ((m : Int) - 1) = (m : Int) - 1 := iw64 (by omega) (by omega)
      rw [e1]
      simp only [go_sem,Nat.reduceAdd,Nat.reduceSub,Nat.reduceMul,Nat.reduceEqDiff,Nat.reduceLeDiff,Nat.reduceLT,↓reduceIte,Int.reduceToNat,reduceCtorEq,Int.reduceLT,Int.reduceLE,Int.reduceGT,Int.reduceGE,Int.reduceEq,Int.reduceNe,Int.reduceNeg,Int.reduceAdd,Int.reduceSub,e2,e3,List.length_map,List.getElem?_map,hc',Int.natCast_nonneg,iwb]
      refine hK m _ _ (by omega) (by omega) (Wk.slots' rfl ?_)
      simp [wkS, Ch.get]
      rw [immL_at hc']
    · have : k = 0 := by omega
      subst this
      simp only [go_sem,Nat.reduceAdd,Nat.reduceSub,Nat.reduceMul,Nat.reduceEqDiff,Nat.reduceLeDiff,Nat.reduceLT,↓reduceIte,Int.reduceToNat,reduceCtorEq,Int.reduceLT,Int.reduceLE,Int.reduceGT,Int.reduceGE,Int.reduceEq,Int.reduceNe,Int.reduceNeg,Int.reduceAdd,Int.reduceSub]
      exact finv rfl (by rw [← hpost]; exact ⟨rfl, rfl⟩) _
theorem number_c (b : List UInt8) (full : Bool) (hl : b.length ≤ 1000) (h0 : 0 < b.length) : ACalls Tryd.prog 92 [.view full 1 (b.map rb)] [] (fun o H => o = .ret (iv (immL b (imm0 0 b))) ∧ H = []) := by
  refine ACalls.up ?_
  refine ACalls.intro (cs := [4]) (n := 28) Tryd.func92 rfl rfl rfl (by kernel_rfl) rfl ?_
  generalize hpost : (fun (o : Out) (H : Heap) => o = Out.ret (iv (immL b (imm0 0 b))) ∧ H = []) = post
  have e0 : iw .i64 ((b.length : Int) - 1) = (b.length : Int) - 1 := iw64 (by omega) (by omega)
  simp only [go_sem,Nat.reduceAdd,Nat.reduceSub,Nat.reduceMul,Nat.reduceEqDiff,Nat.reduceLeDiff,Nat.reduceLT,↓reduceIte,Int.reduceToNat,reduceCtorEq,Int.reduceLT,Int.reduceLE,Int.reduceGT,Int.reduceGE,Int.reduceEq,Int.reduceNe,Int.reduceNeg,Int.reduceAdd,Int.reduceSub]
  refine seq_cut (fun _ : Unit => ((Ch.nil.put 0 (.view full 1 (b.map rb))).put 3 (iv (imm0 0 b)))) (fun _ => []) (fun _ => True) (by kernel_rfl) ?_ ?_
  · intro K hK
    have fin : ∀ s' H', H' = [] → wkS ((Ch.nil.put 0 (.view full 1 (b.map rb))).put 3 (iv (imm0 0 b))) s' → K s' H' := fun s' H' e h => hK () s' H' trivial (by subst e; exact Wk.slots' rfl h)
    obtain ⟨c, hc⟩ := at_lt (l := b) (i := b.length - 1) (by omega)
    have h1 : (0 : Int) ≤ (b.length : Int) - 1 := by omega
    have h2 : (b.length : Int) - 1 < b.length := by omega
    have h3 : ((b.length : Int) - 1).toNat = b.length - 1 := by omega
    simp only [go_sem,Nat.reduceAdd,Nat.reduceSub,Nat.reduceMul,Nat.reduceEqDiff,Nat.reduceLeDiff,Nat.reduceLT,↓reduceIte,Int.reduceToNat,reduceCtorEq,Int.reduceLT,Int.reduceLE,Int.reduceGT,Int.reduceGE,Int.reduceEq,Int.reduceNe,Int.reduceNeg,Int.reduceAdd,Int.reduceSub,h1,h2,h3,List.length_map,List.getElem?_map,hc,e0]
    repeat' (first | (refine gD_dec (fun hg => ?_) (fun hg => ?_) <;> simp only [go_sem,Nat.reduceAdd,Nat.reduceSub,Nat.reduceMul,Nat.reduceEqDiff,Nat.reduceLeDiff,Nat.reduceLT,↓reduceIte,Int.reduceToNat,reduceCtorEq,Int.reduceLT,Int.reduceLE,Int.reduceGT,Int.reduceGE,Int.reduceEq,Int.reduceNe,Int.reduceNeg,Int.reduceAdd,Int.reduceSub,hg]) | (refine condD_dec (fun hg => ?_) (fun hg => ?_) <;> simp only [go_sem,Nat.reduceAdd,Nat.reduceSub,Nat.reduceMul,Nat.reduceEqDiff,Nat.reduceLeDiff,Nat.reduceLT,↓reduceIte,Int.reduceToNat,reduceCtorEq,Int.reduceLT,Int.reduceLE,Int.reduceGT,Int.reduceGE,Int.reduceEq,Int.reduceNe,Int.reduceNeg,Int.reduceAdd,Int.reduceSub,hg]))
    · exact fin _ _ rfl (by simp [wkS, Ch.get, imm0, topB, hc]; omega)
    · exact fin _ _ rfl (by simp [wkS, Ch.get, imm0, topB, hc]; omega)
  · rintro - -
    simp only [go_sem,Nat.reduceAdd,Nat.reduceSub,Nat.reduceMul,Nat.reduceEqDiff,Nat.reduceLeDiff,Nat.reduceLT,↓reduceIte,Int.reduceToNat,reduceCtorEq,Int.reduceLT,Int.reduceLE,Int.reduceGT,Int.reduceGE,Int.reduceEq,Int.reduceNe,Int.reduceNeg,Int.reduceAdd,Int.reduceSub,List.length_map,e0]
    refine loop_fam (fun k : Nat => (((Ch.nil.put 0 (.view full 1 (b.map rb))).put 3 (iv (immL (b.drop k) (imm0 0 b)))).put 4 (iv ((k : Int) - 1)))) (fun _ => []) (fun k => k) (fun k => k ≤ b.length) b.length (by kernel_rfl) (Nat.le_refl _)
      (Wk.slots' rfl (by simp [wkS, Ch.get, immL])) ?_
    rintro k hk K hK
    simp only [go_sem,Nat.reduceAdd,Nat.reduceSub,Nat.reduceMul,Nat.reduceEqDiff,Nat.reduceLeDiff,Nat.reduceLT,↓reduceIte,Int.reduceToNat,reduceCtorEq,Int.reduceLT,Int.reduceLE,Int.reduceGT,Int.reduceGE,Int.reduceEq,Int.reduceNe,Int.reduceNeg,Int.reduceAdd,Int.reduceSub]
    refine condD_dec (fun hc => ?_) (fun hc => ?_)
    · obtain ⟨m, rfl⟩ : ∃ m, k = m + 1 := ⟨k - 1, by omega⟩
      obtain ⟨c, hc'⟩ := at_lt (l := b) (i := m) (by omega)
      have e1 : (((m + 1 : Nat) : Int) - 1) = (m : Int) := by omega
      have e2 : (m : Int) < b.length := by omega
      have e3 : iw .i64 ((m : Int) - 1) = (m : Int) - 1 := iw64 (by omega) (by omega)
      rw [e1]
      simp only [go_sem,Nat.reduceAdd,Nat.reduceSub,Nat.reduceMul,Nat.reduceEqDiff,Nat.reduceLeDiff,Nat.reduceLT,↓reduceIte,Int.reduceToNat,reduceCtorEq,Int.reduceLT,Int.reduceLE,Int.reduceGT,Int.reduceGE,Int.reduceEq,Int.reduceNe,Int.reduceNeg,Int.reduceAdd,Int.reduceSub,e2,e3,List.length_map,List.getElem?_map,hc',Int.natCast_nonneg,iwb]
      refine hK m _ _ (by omega) (by omega) (Wk.slots' rfl ?_)
      simp [wkS, Ch.get]
      rw [immL_at hc']
    · have : k = 0 := by omega
      subst this
      simp only [go_sem,Nat.reduceAdd,Nat.reduceSub,Nat.reduceMul,Nat.reduceEqDiff,Nat.reduceLeDiff,Nat.reduceLT,↓reduceIte,Int.reduceToNat,reduceCtorEq,Int.reduceLT,Int.reduceLE,Int.reduceGT,Int.reduceGE,Int.reduceEq,Int.reduceNe,Int.reduceNeg,Int.reduceAdd,Int.reduceSub]
      exact finv rfl (by rw [← hpost]; exact ⟨rfl, rfl⟩) _
end Go.Proofs.YtojfnagfafoiaaaDoor

set_option maxRecDepth 100000
set_option linter.unusedVariables false
set_option linter.unusedSimpArgs false
namespace Go.Proofs.YtojfnagfafoiaaaDoor
open Go.AM
/-- The bytes from i on, up to n, as bytes of an operand: 0, or an error. -/
def scan (wide : Bool) (b : List UInt8) (n : Nat) : Nat → Nat → Int
  | 0, _ => 0
  | m + 1, i => match b[i]? with
    | none => 21
    | some c => if 128 ≤ (c.toNat : Int) ∨ (wide = true ∧ i + 1 = n ∧ (c.toNat : Int) ≠ 0 ∧ (c.toNat : Int) ≠ 127) then 20 else scan wide b n m (i + 1)
theorem scan_vals (wide : Bool) (b : List UInt8) (n : Nat) : ∀ (m i : Nat), scan wide b n m i = 0 ∨ scan wide b n m i = 20 ∨ scan wide b n m i = 21
  | 0, _ => .inl rfl
  | m + 1, i => by
    rw [scan]
    split
    · simp
    · split
      · simp
      · exact scan_vals wide b n m (i + 1)
theorem scan_len (wide : Bool) (b : List UInt8) (n : Nat) : ∀ (m i : Nat), scan wide b n m i = 0 → i ≤ b.length → i + m ≤ b.length
  | 0, i, _, h => h
  | m + 1, i, h, hi => by
    rw [scan] at h
    split at h
    · cases h
    · rename_i c hc
      have hl := (List.getElem?_eq_some_iff.1 hc).1
      split at h
      · cases h
      · have := scan_len wide b n m (i + 1) h (by omega)
        omega
structure Dec where
  x : Ins
  n : Nat
  e : Int
def Dec.err (e : Int) : Dec := ⟨⟨0, 0, 0, 0⟩, 0, e⟩
def Dec.av (d : Dec) : AV := .tuple [d.x.av, iv d.n, iv d.e]
/-- What is decoded behind the registers. -/
def decB (b : List UInt8) (op a b' : Int) (k : Nat) : Dec :=
  if scan (decide (kform op = 3)) b (flen (kform op)) (flen (kform op) - k) k = 0 then
    ⟨⟨op, a, b', immL ((b.take (flen (kform op))).drop k) (imm0 (kform op) ((b.take (flen (kform op))).drop k))⟩, flen (kform op), 0⟩
  else .err (scan (decide (kform op = 3)) b (flen (kform op)) (flen (kform op) - k) k)
def dec (b : List UInt8) : Dec := match b with
  | [] => .err 21
  | b0 :: rest =>
    if isOp ((b0.toNat : Int) - 128) = true then
      if hasA (kform ((b0.toNat : Int) - 128)) = true then
        match rest with
        | [] => .err 21
        | b1 :: _ =>
          if hasB (kform ((b0.toNat : Int) - 128)) = true then
            if 64 ≤ (b1.toNat : Int) then .err 20 else decB b ((b0.toNat : Int) - 128) ((b1.toNat : Int).tdiv 8) ((b1.toNat : Int).tmod 8) 2
          else if 8 ≤ (b1.toNat : Int) then .err 20 else decB b ((b0.toNat : Int) - 128) b1.toNat 0 2
      else decB b ((b0.toNat : Int) - 128) 0 0 1
    else .err 20
theorem dec_cons (b0 : UInt8) (rest : List UInt8) : dec (b0 :: rest) = if isOp ((b0.toNat : Int) - 128) = true then
      if hasA (kform ((b0.toNat : Int) - 128)) = true then
        match rest with
        | [] => .err 21
        | b1 :: _ =>
          if hasB (kform ((b0.toNat : Int) - 128)) = true then
            if 64 ≤ (b1.toNat : Int) then .err 20 else decB (b0 :: rest) ((b0.toNat : Int) - 128) ((b1.toNat : Int).tdiv 8) ((b1.toNat : Int).tmod 8) 2
          else if 8 ≤ (b1.toNat : Int) then .err 20 else decB (b0 :: rest) ((b0.toNat : Int) - 128) b1.toNat 0 2
      else decB (b0 :: rest) ((b0.toNat : Int) - 128) 0 0 1
    else .err 20 := rfl
theorem flen_A {f : Int} (h : hasA f = true) : 2 ≤ flen f := by unfold flen; rw [if_pos h]; omega
theorem i2 : iw .i64 2 = 2 := by decide
theorem decode_c (b : List UInt8) (hl : b.length ≤ 1000) : ACalls Tryd.prog 26 [.view false 1 (b.map rb)] [] (fun o H => o = .ret (dec b).av ∧ H = []) := by
  refine ACalls.up ?_
  refine ACalls.intro (cs := [21]) (n := 120) Tryd.func26 rfl rfl rfl (by kernel_rfl) rfl ?_
  generalize hpost : (fun (o : Out) (H : Heap) => o = Out.ret (dec b).av ∧ H = []) = post
  have fin : ∀ (x : Ins) (n e : Int) H, .tuple [.agg [iv x.op, iv x.a, iv x.b, iv x.imm], iv n, iv e] = (dec b).av → Up 0 post (.ret (.tuple [.agg [iv x.op, iv x.a, iv x.b, iv x.imm], iv n, iv e])) H := fun x n e H h => finv rfl (by rw [← hpost, h]; exact ⟨rfl, rfl⟩) H
  rcases b with _ | ⟨b0, rest⟩
  · simp only [go_sem,Nat.reduceAdd,Nat.reduceSub,Nat.reduceMul,Nat.reduceEqDiff,Nat.reduceLeDiff,Nat.reduceLT,↓reduceIte,Int.reduceToNat,reduceCtorEq,Int.reduceLT,Int.reduceLE,Int.reduceGT,Int.reduceGE,Int.reduceEq,Int.reduceNe,Int.reduceNeg,Int.reduceAdd,Int.reduceSub]
    exact fin ⟨0, 0, 0, 0⟩ 0 21 _ rfl
  have q1 : ¬ (((b0 :: rest).length : Nat) : Int) = 0 := by rw [List.length_cons]; omega
  have q2 : (0 : Int) < ((b0 :: rest).length : Nat) := by rw [List.length_cons]; omega
  have q3 := u8_lt b0
  have e1 : iw .i64 ((b0.toNat : Int) - 128) = (b0.toNat : Int) - 128 := iw64 (by omega) (by omega)
  generalize hb : b0 :: rest = b at *
  have hb0 : b[0]? = some b0 := by rw [← hb]; rfl
  simp only [go_sem,Nat.reduceAdd,Nat.reduceSub,Nat.reduceMul,Nat.reduceEqDiff,Nat.reduceLeDiff,Nat.reduceLT,↓reduceIte,Int.reduceToNat,reduceCtorEq,Int.reduceLT,Int.reduceLE,Int.reduceGT,Int.reduceGE,Int.reduceEq,Int.reduceNe,Int.reduceNeg,Int.reduceAdd,Int.reduceSub,List.length_map,q1,q2,List.getElem?_map,hb0,iwb,e1,Int.le_refl]
  refine rK_use (enters_of Tryd.func63 rfl (by decide)) (ACalls.pure_use (kind_c _) rfl rfl) ?_
  generalize hop : (b0.toNat : Int) - 128 = op
  simp only [go_sem,Nat.reduceAdd,Nat.reduceSub,Nat.reduceMul,Nat.reduceEqDiff,Nat.reduceLeDiff,Nat.reduceLT,↓reduceIte,Int.reduceToNat,reduceCtorEq,Int.reduceLT,Int.reduceLE,Int.reduceGT,Int.reduceGE,Int.reduceEq,Int.reduceNe,Int.reduceNeg,Int.reduceAdd,Int.reduceSub,kname_eq]
  rcases Decidable.em (isOp op = true) with ho | ho
  rotate_left
  · simp only [go_sem,Nat.reduceAdd,Nat.reduceSub,Nat.reduceMul,Nat.reduceEqDiff,Nat.reduceLeDiff,Nat.reduceLT,↓reduceIte,Int.reduceToNat,reduceCtorEq,Int.reduceLT,Int.reduceLE,Int.reduceGT,Int.reduceGE,Int.reduceEq,Int.reduceNe,Int.reduceNeg,Int.reduceAdd,Int.reduceSub,ho]
    exact fin ⟨0, 0, 0, 0⟩ 0 20 _ (by rw [← hb, dec_cons, hop, if_neg ho]; rfl)
  simp only [go_sem,Nat.reduceAdd,Nat.reduceSub,Nat.reduceMul,Nat.reduceEqDiff,Nat.reduceLeDiff,Nat.reduceLT,↓reduceIte,Int.reduceToNat,reduceCtorEq,Int.reduceLT,Int.reduceLE,Int.reduceGT,Int.reduceGE,Int.reduceEq,Int.reduceNe,Int.reduceNeg,Int.reduceAdd,Int.reduceSub,ho]
  refine rK_use (enters_of Tryd.func62 rfl (by decide)) (ACalls.pure_use (flength_c _) rfl rfl) ?_
  simp only [go_sem,Nat.reduceAdd,Nat.reduceSub,Nat.reduceMul,Nat.reduceEqDiff,Nat.reduceLeDiff,Nat.reduceLT,↓reduceIte,Int.reduceToNat,reduceCtorEq,Int.reduceLT,Int.reduceLE,Int.reduceGT,Int.reduceGE,Int.reduceEq,Int.reduceNe,Int.reduceNeg,Int.reduceAdd,Int.reduceSub]
  have hfl := flen_le (kform op)
  have hf1 : 1 ≤ flen (kform op) := by unfold flen; omega
  refine seq_cut (fun z : Int × Int × Nat => (((((Ch.nil.put 0 (.view false 1 (b.map rb))).put 2 (.ptr 0 0 0)).put 5 (.ptr 1 0 0)).put 6 (.ptr 2 0 0)).put 7 (iv (flen (kform op)))).put 8 (iv z.2.2))
    (fun z => [.rows 4 [[iv 0, iv 0, iv 0, iv 0]], .rows 4 [[iv op, iv z.1, iv z.2.1, iv 0]], .rows 2 [[.str (kname op), iv (kform op)]]])
    (fun z => dec b = decB b op z.1 z.2.1 z.2.2 ∧ z.2.2 ≤ b.length ∧ z.2.2 ≤ flen (kform op) ∧ 1 ≤ z.2.2) (by kernel_rfl) ?_ ?_
  · intro K hK
    simp only [go_sem,Nat.reduceAdd,Nat.reduceSub,Nat.reduceMul,Nat.reduceEqDiff,Nat.reduceLeDiff,Nat.reduceLT,↓reduceIte,Int.reduceToNat,reduceCtorEq,Int.reduceLT,Int.reduceLE,Int.reduceGT,Int.reduceGE,Int.reduceEq,Int.reduceNe,Int.reduceNeg,Int.reduceAdd,Int.reduceSub]
    refine rK_use (enters_of Tryd.func65 rfl (by decide)) (ACalls.pure_use (hasA_c _) rfl rfl) ?_
    rcases Decidable.em (hasA (kform op) = true) with hA | hA
    rotate_left
    · simp only [go_sem,Nat.reduceAdd,Nat.reduceSub,Nat.reduceMul,Nat.reduceEqDiff,Nat.reduceLeDiff,Nat.reduceLT,↓reduceIte,Int.reduceToNat,reduceCtorEq,Int.reduceLT,Int.reduceLE,Int.reduceGT,Int.reduceGE,Int.reduceEq,Int.reduceNe,Int.reduceNeg,Int.reduceAdd,Int.reduceSub,hA]
      refine hK (0, 0, 1) _ _ ⟨by rw [← hb, dec_cons, hop, if_pos ho, if_neg hA], by rw [← hb]; simp, hf1, Nat.le_refl _⟩ (Wk.slots' rfl (by simp [wkS, Ch.get]))
    have hf2 := flen_A hA
    simp only [go_sem,Nat.reduceAdd,Nat.reduceSub,Nat.reduceMul,Nat.reduceEqDiff,Nat.reduceLeDiff,Nat.reduceLT,↓reduceIte,Int.reduceToNat,reduceCtorEq,Int.reduceLT,Int.reduceLE,Int.reduceGT,Int.reduceGE,Int.reduceEq,Int.reduceNe,Int.reduceNeg,Int.reduceAdd,Int.reduceSub,hA,List.length_map]
    rcases rest with _ | ⟨b1, rest⟩
    · have q4 : b.length = 1 := by rw [← hb]; rfl
      simp only [go_sem,Nat.reduceAdd,Nat.reduceSub,Nat.reduceMul,Nat.reduceEqDiff,Nat.reduceLeDiff,Nat.reduceLT,↓reduceIte,Int.reduceToNat,reduceCtorEq,Int.reduceLT,Int.reduceLE,Int.reduceGT,Int.reduceGE,Int.reduceEq,Int.reduceNe,Int.reduceNeg,Int.reduceAdd,Int.reduceSub,q4,Int.natCast_one]
      exact fin ⟨0, 0, 0, 0⟩ 0 21 _ (by rw [← hb, dec_cons, hop, if_pos ho, if_pos hA]; rfl)
    have q4 : ¬ (b.length : Int) = 1 := by rw [← hb]; simp; omega
    have q5 : (1 : Int) < b.length := by rw [← hb]; simp; omega
    have hb1 : b[1]? = some b1 := by rw [← hb]; rfl
    have q6 := u8_lt b1
    simp only [go_sem,Nat.reduceAdd,Nat.reduceSub,Nat.reduceMul,Nat.reduceEqDiff,Nat.reduceLeDiff,Nat.reduceLT,↓reduceIte,Int.reduceToNat,reduceCtorEq,Int.reduceLT,Int.reduceLE,Int.reduceGT,Int.reduceGE,Int.reduceEq,Int.reduceNe,Int.reduceNeg,Int.reduceAdd,Int.reduceSub,q4]
    refine rK_use (enters_of Tryd.func66 rfl (by decide)) (ACalls.pure_use (hasB_c _) rfl rfl) ?_
    rcases Decidable.em (hasB (kform op) = true) with hB | hB
    · simp only [go_sem,Nat.reduceAdd,Nat.reduceSub,Nat.reduceMul,Nat.reduceEqDiff,Nat.reduceLeDiff,Nat.reduceLT,↓reduceIte,Int.reduceToNat,reduceCtorEq,Int.reduceLT,Int.reduceLE,Int.reduceGT,Int.reduceGE,Int.reduceEq,Int.reduceNe,Int.reduceNeg,Int.reduceAdd,Int.reduceSub,hB,List.length_map,q5,List.getElem?_map,hb1]
      rcases Decidable.em (64 ≤ (b1.toNat : Int)) with h64 | h64
      · simp only [go_sem,Nat.reduceAdd,Nat.reduceSub,Nat.reduceMul,Nat.reduceEqDiff,Nat.reduceLeDiff,Nat.reduceLT,↓reduceIte,Int.reduceToNat,reduceCtorEq,Int.reduceLT,Int.reduceLE,Int.reduceGT,Int.reduceGE,Int.reduceEq,Int.reduceNe,Int.reduceNeg,Int.reduceAdd,Int.reduceSub,h64]
        exact fin ⟨0, 0, 0, 0⟩ 0 20 _ (by rw [← hb, dec_cons, hop, if_pos ho, if_pos hA]; simp only [hB, if_true, h64]; rfl)
      · simp only [go_sem,Nat.reduceAdd,Nat.reduceSub,Nat.reduceMul,Nat.reduceEqDiff,Nat.reduceLeDiff,Nat.reduceLT,↓reduceIte,Int.reduceToNat,reduceCtorEq,Int.reduceLT,Int.reduceLE,Int.reduceGT,Int.reduceGE,Int.reduceEq,Int.reduceNe,Int.reduceNeg,Int.reduceAdd,Int.reduceSub,h64,List.length_map,q5,List.getElem?_map,hb1,iwb]
        refine rK_use (enters_of Tryd.func66 rfl (by decide)) (ACalls.pure_use (hasB_c _) rfl rfl) ?_
        have e2 : iw .i64 ((b1.toNat : Int).tdiv 8) = (b1.toNat : Int).tdiv 8 := by
          have := u8_ge b1
          rw [Int.tdiv_eq_ediv_of_nonneg this]
          exact iw64 (by omega) (by omega)
        simp only [go_sem,Nat.reduceAdd,Nat.reduceSub,Nat.reduceMul,Nat.reduceEqDiff,Nat.reduceLeDiff,Nat.reduceLT,↓reduceIte,Int.reduceToNat,reduceCtorEq,Int.reduceLT,Int.reduceLE,Int.reduceGT,Int.reduceGE,Int.reduceEq,Int.reduceNe,Int.reduceNeg,Int.reduceAdd,Int.reduceSub,hB,e2]
        refine hK ((b1.toNat : Int).tdiv 8, (b1.toNat : Int).tmod 8, 2) _ _ ⟨by rw [← hb, dec_cons, hop, if_pos ho, if_pos hA]; simp only [hB, if_true, h64, if_false], by rw [← hb]; simp, hf2, by simp⟩ (Wk.slots' rfl (by simp [wkS, Ch.get, i2]))
    · simp only [go_sem,Nat.reduceAdd,Nat.reduceSub,Nat.reduceMul,Nat.reduceEqDiff,Nat.reduceLeDiff,Nat.reduceLT,↓reduceIte,Int.reduceToNat,reduceCtorEq,Int.reduceLT,Int.reduceLE,Int.reduceGT,Int.reduceGE,Int.reduceEq,Int.reduceNe,Int.reduceNeg,Int.reduceAdd,Int.reduceSub,hB,List.length_map,q5,List.getElem?_map,hb1]
      rcases Decidable.em (8 ≤ (b1.toNat : Int)) with h64 | h64
      · simp only [go_sem,Nat.reduceAdd,Nat.reduceSub,Nat.reduceMul,Nat.reduceEqDiff,Nat.reduceLeDiff,Nat.reduceLT,↓reduceIte,Int.reduceToNat,reduceCtorEq,Int.reduceLT,Int.reduceLE,Int.reduceGT,Int.reduceGE,Int.reduceEq,Int.reduceNe,Int.reduceNeg,Int.reduceAdd,Int.reduceSub,h64]
        exact fin ⟨0, 0, 0, 0⟩ 0 20 _ (by rw [← hb, dec_cons, hop, if_pos ho, if_pos hA]; simp only [hB, if_true, if_false, h64]; rfl)
      · simp only [go_sem,Nat.reduceAdd,Nat.reduceSub,Nat.reduceMul,Nat.reduceEqDiff,Nat.reduceLeDiff,Nat.reduceLT,↓reduceIte,Int.reduceToNat,reduceCtorEq,Int.reduceLT,Int.reduceLE,Int.reduceGT,Int.reduceGE,Int.reduceEq,Int.reduceNe,Int.reduceNeg,Int.reduceAdd,Int.reduceSub,h64,List.length_map,q5,List.getElem?_map,hb1,iwb]
        refine rK_use (enters_of Tryd.func66 rfl (by decide)) (ACalls.pure_use (hasB_c _) rfl rfl) ?_
        simp only [go_sem,Nat.reduceAdd,Nat.reduceSub,Nat.reduceMul,Nat.reduceEqDiff,Nat.reduceLeDiff,Nat.reduceLT,↓reduceIte,Int.reduceToNat,reduceCtorEq,Int.reduceLT,Int.reduceLE,Int.reduceGT,Int.reduceGE,Int.reduceEq,Int.reduceNe,Int.reduceNeg,Int.reduceAdd,Int.reduceSub,hB]
        refine hK ((b1.toNat : Int), 0, 2) _ _ ⟨by rw [← hb, dec_cons, hop, if_pos ho, if_pos hA]; simp only [hB, if_true, h64, if_false, Bool.false_eq_true], by rw [← hb]; simp, hf2, by simp⟩ (Wk.slots' rfl (by simp [wkS, Ch.get, i2]))
  · rintro ⟨a, b', k⟩ ⟨hd, hkl, hkf, hk1⟩
    simp only at hd hkl hkf hk1
    simp only [go_sem,Nat.reduceAdd,Nat.reduceSub,Nat.reduceMul,Nat.reduceEqDiff,Nat.reduceLeDiff,Nat.reduceLT,↓reduceIte,Int.reduceToNat,reduceCtorEq,Int.reduceLT,Int.reduceLE,Int.reduceGT,Int.reduceGE,Int.reduceEq,Int.reduceNe,Int.reduceNeg,Int.reduceAdd,Int.reduceSub]
    generalize hw : decide (kform op = 3) = wide
    generalize hf0 : flen (kform op) = fl at *
    refine loop_fam (fun i : Nat => ((((((Ch.nil.put 0 (.view false 1 (b.map rb))).put 2 (.ptr 0 0 0)).put 5 (.ptr 1 0 0)).put 6 (.ptr 2 0 0)).put 7 (iv (fl))).put 8 (iv k)).put 10 (iv i))
      (fun i => [.rows 4 [[iv 0, iv 0, iv 0, iv 0]], .rows 4 [[iv op, iv a, iv b', iv 0]], .rows 2 [[.str (kname op), iv (kform op)]]])
      (fun i => fl - i) (fun i => k ≤ i ∧ i ≤ fl ∧ i ≤ b.length ∧ scan wide b (fl) (fl - k) k = scan wide b (fl) (fl - i) i) k (by kernel_rfl) ⟨Nat.le_refl _, hkf, hkl, rfl⟩
      (Wk.slots' rfl (by simp [wkS, Ch.get])) ?_
    rintro i ⟨h1, h2, h3, hs⟩ K hK
    simp only [go_sem,Nat.reduceAdd,Nat.reduceSub,Nat.reduceMul,Nat.reduceEqDiff,Nat.reduceLeDiff,Nat.reduceLT,↓reduceIte,Int.reduceToNat,reduceCtorEq,Int.reduceLT,Int.reduceLE,Int.reduceGT,Int.reduceGE,Int.reduceEq,Int.reduceNe,Int.reduceNeg,Int.reduceAdd,Int.reduceSub,List.length_map]
    refine condD_dec (fun hc => ?_) (fun hc => ?_)
    · obtain ⟨m, hm⟩ : ∃ m, fl - i = m + 1 := ⟨fl - i - 1, by omega⟩
      rw [hm, scan] at hs
      simp only [go_sem,Nat.reduceAdd,Nat.reduceSub,Nat.reduceMul,Nat.reduceEqDiff,Nat.reduceLeDiff,Nat.reduceLT,↓reduceIte,Int.reduceToNat,reduceCtorEq,Int.reduceLT,Int.reduceLE,Int.reduceGT,Int.reduceGE,Int.reduceEq,Int.reduceNe,Int.reduceNeg,Int.reduceAdd,Int.reduceSub,List.length_map]
      refine condD_dec (fun hx => ?_) (fun hx => ?_)
      · have hi : b[i]? = none := by rw [List.getElem?_eq_none_iff]; omega
        rw [hi] at hs
        simp only [go_sem,Nat.reduceAdd,Nat.reduceSub,Nat.reduceMul,Nat.reduceEqDiff,Nat.reduceLeDiff,Nat.reduceLT,↓reduceIte,Int.reduceToNat,reduceCtorEq,Int.reduceLT,Int.reduceLE,Int.reduceGT,Int.reduceGE,Int.reduceEq,Int.reduceNe,Int.reduceNeg,Int.reduceAdd,Int.reduceSub]
        exact fin ⟨0, 0, 0, 0⟩ 0 21 _ (by rw [hd, decB, hw, hf0, hs]; rfl)
      · obtain ⟨c, hi⟩ := at_lt (l := b) (i := i) (by omega)
        have hlt : (i : Int) < b.length := by omega
        have e3 : iw .i64 ((fl : Int) - 1) = (fl : Int) - 1 := iw64 (by omega) (by omega)
        have e4 : iw .i64 ((i : Int) + 1) = ((i + 1 : Nat) : Int) := by rw [iw64] <;> omega
        have e8 : iw .i64 ((fl : Int) - 1 + 1) = fl := by rw [iw64] <;> omega
        have hcc := u8_lt c
        rw [hi] at hs
        simp only at hs
        have bad : ∀ H, (128 ≤ (c.toNat : Int) ∨ (wide = true ∧ i + 1 = fl ∧ (c.toNat : Int) ≠ 0 ∧ (c.toNat : Int) ≠ 127)) → Up 0 post (.ret (.tuple [.agg [iv 0, iv 0, iv 0, iv 0], iv 0, iv 20])) H := fun H h => fin ⟨0, 0, 0, 0⟩ 0 20 H (by rw [hd, decB, hw, hf0, hs, if_pos h]; rfl)
        have good : ∀ s' H', ¬ (128 ≤ (c.toNat : Int) ∨ (wide = true ∧ i + 1 = fl ∧ (c.toNat : Int) ≠ 0 ∧ (c.toNat : Int) ≠ 127)) → Wk 0 120 s' H' (((((((Ch.nil.put 0 (.view false 1 (b.map rb))).put 2 (.ptr 0 0 0)).put 5 (.ptr 1 0 0)).put 6 (.ptr 2 0 0)).put 7 (iv (fl))).put 8 (iv k)).put 10 (iv (i + 1 : Nat))) [.rows 4 [[iv 0, iv 0, iv 0, iv 0]], .rows 4 [[iv op, iv a, iv b', iv 0]], .rows 2 [[.str (kname op), iv (kform op)]]] → K s' H' := fun s' H' h hwk =>
          hK (i + 1) s' H' ⟨by omega, by omega, by omega, by rw [hs, if_neg h]; congr 1; omega⟩ (by omega) hwk
        rcases Decidable.em (i + 1 = fl) with hla | hla
        · have hla' : (fl : Int) - 1 = i := by omega
          rw [hla'] at e3
          simp only [go_sem,Nat.reduceAdd,Nat.reduceSub,Nat.reduceMul,Nat.reduceEqDiff,Nat.reduceLeDiff,Nat.reduceLT,↓reduceIte,Int.reduceToNat,reduceCtorEq,Int.reduceLT,Int.reduceLE,Int.reduceGT,Int.reduceGE,Int.reduceEq,Int.reduceNe,Int.reduceNeg,Int.reduceAdd,Int.reduceSub,List.length_map,List.getElem?_map,hi,hlt,Int.natCast_nonneg,hla',e3]
          repeat' (first | (refine gD_dec (fun hg => ?_) (fun hg => ?_) <;> simp only [go_sem,Nat.reduceAdd,Nat.reduceSub,Nat.reduceMul,Nat.reduceEqDiff,Nat.reduceLeDiff,Nat.reduceLT,↓reduceIte,Int.reduceToNat,reduceCtorEq,Int.reduceLT,Int.reduceLE,Int.reduceGT,Int.reduceGE,Int.reduceEq,Int.reduceNe,Int.reduceNeg,Int.reduceAdd,Int.reduceSub,hg,List.length_map,List.getElem?_map,hi,hlt,Int.natCast_nonneg,hla',e3,e4]) | (refine condD_dec (fun hg => ?_) (fun hg => ?_) <;> simp only [go_sem,Nat.reduceAdd,Nat.reduceSub,Nat.reduceMul,Nat.reduceEqDiff,Nat.reduceLeDiff,Nat.reduceLT,↓reduceIte,Int.reduceToNat,reduceCtorEq,Int.reduceLT,Int.reduceLE,Int.reduceGT,Int.reduceGE,Int.reduceEq,Int.reduceNe,Int.reduceNeg,Int.reduceAdd,Int.reduceSub,hg,List.length_map,List.getElem?_map,hi,hlt,Int.natCast_nonneg,hla',e3,e4]) | (refine gD_bool (fun hg => ?_) (fun hg => ?_) <;> simp only [go_sem,Nat.reduceAdd,Nat.reduceSub,Nat.reduceMul,Nat.reduceEqDiff,Nat.reduceLeDiff,Nat.reduceLT,↓reduceIte,Int.reduceToNat,reduceCtorEq,Int.reduceLT,Int.reduceLE,Int.reduceGT,Int.reduceGE,Int.reduceEq,Int.reduceNe,Int.reduceNeg,Int.reduceAdd,Int.reduceSub,hg,List.length_map,List.getElem?_map,hi,hlt,Int.natCast_nonneg,hla',e3,e4]) | (refine condD_bool (fun hg => ?_) (fun hg => ?_) <;> simp only [go_sem,Nat.reduceAdd,Nat.reduceSub,Nat.reduceMul,Nat.reduceEqDiff,Nat.reduceLeDiff,Nat.reduceLT,↓reduceIte,Int.reduceToNat,reduceCtorEq,Int.reduceLT,Int.reduceLE,Int.reduceGT,Int.reduceGE,Int.reduceEq,Int.reduceNe,Int.reduceNeg,Int.reduceAdd,Int.reduceSub,hg,List.length_map,List.getElem?_map,hi,hlt,Int.natCast_nonneg,hla',e3,e4]))
          all_goals first
            | exact bad _ (.inl (by assumption))
            | exact bad _ (.inr ⟨by rw [← hw]; exact decide_eq_true (by assumption), hla, by omega, by omega⟩)
            | refine good _ _ (fun h => ?_) (Wk.slots' (by first | rfl | simp [*]) (by simp [wkS, Ch.get]))
              rcases h with h | ⟨g1, g2, g3, g4⟩
              · omega
              · have g5 : kform op = 3 := of_decide_eq_true (hw.trans g1)
                omega
        · have hla' : ¬ ((i : Int) = (fl : Int) - 1) := by omega
          simp only [go_sem,Nat.reduceAdd,Nat.reduceSub,Nat.reduceMul,Nat.reduceEqDiff,Nat.reduceLeDiff,Nat.reduceLT,↓reduceIte,Int.reduceToNat,reduceCtorEq,Int.reduceLT,Int.reduceLE,Int.reduceGT,Int.reduceGE,Int.reduceEq,Int.reduceNe,Int.reduceNeg,Int.reduceAdd,Int.reduceSub,List.length_map,List.getElem?_map,hi,hlt,Int.natCast_nonneg,hla',e3]
          repeat' (first | (refine gD_dec (fun hg => ?_) (fun hg => ?_) <;> simp only [go_sem,Nat.reduceAdd,Nat.reduceSub,Nat.reduceMul,Nat.reduceEqDiff,Nat.reduceLeDiff,Nat.reduceLT,↓reduceIte,Int.reduceToNat,reduceCtorEq,Int.reduceLT,Int.reduceLE,Int.reduceGT,Int.reduceGE,Int.reduceEq,Int.reduceNe,Int.reduceNeg,Int.reduceAdd,Int.reduceSub,hg,List.length_map,List.getElem?_map,hi,hlt,Int.natCast_nonneg,hla',e3,e4]) | (refine condD_dec (fun hg => ?_) (fun hg => ?_) <;> simp only [go_sem,Nat.reduceAdd,Nat.reduceSub,Nat.reduceMul,Nat.reduceEqDiff,Nat.reduceLeDiff,Nat.reduceLT,↓reduceIte,Int.reduceToNat,reduceCtorEq,Int.reduceLT,Int.reduceLE,Int.reduceGT,Int.reduceGE,Int.reduceEq,Int.reduceNe,Int.reduceNeg,Int.reduceAdd,Int.reduceSub,hg,List.length_map,List.getElem?_map,hi,hlt,Int.natCast_nonneg,hla',e3,e4]) | (refine gD_bool (fun hg => ?_) (fun hg => ?_) <;> simp only [go_sem,Nat.reduceAdd,Nat.reduceSub,Nat.reduceMul,Nat.reduceEqDiff,Nat.reduceLeDiff,Nat.reduceLT,↓reduceIte,Int.reduceToNat,reduceCtorEq,Int.reduceLT,Int.reduceLE,Int.reduceGT,Int.reduceGE,Int.reduceEq,Int.reduceNe,Int.reduceNeg,Int.reduceAdd,Int.reduceSub,hg,List.length_map,List.getElem?_map,hi,hlt,Int.natCast_nonneg,hla',e3,e4]) | (refine condD_bool (fun hg => ?_) (fun hg => ?_) <;> simp only [go_sem,Nat.reduceAdd,Nat.reduceSub,Nat.reduceMul,Nat.reduceEqDiff,Nat.reduceLeDiff,Nat.reduceLT,↓reduceIte,Int.reduceToNat,reduceCtorEq,Int.reduceLT,Int.reduceLE,Int.reduceGT,Int.reduceGE,Int.reduceEq,Int.reduceNe,Int.reduceNeg,Int.reduceAdd,Int.reduceSub,hg,List.length_map,List.getElem?_map,hi,hlt,Int.natCast_nonneg,hla',e3,e4]))
          all_goals first
            | exact bad _ (.inl (by assumption))
            | refine good _ _ (fun h => ?_) (Wk.slots' (by first | rfl | simp [*]) (by simp [wkS, Ch.get]))
              rcases h with h | ⟨g1, g2, g3, g4⟩ <;> omega
    · have hin : i = fl := by omega
      subst hin
      rw [Nat.sub_self, scan] at hs
      have hkn : (k : Int) ≤ (i : Int) := by omega
      have hnl : (i : Int) ≤ b.length := by omega
      simp only [go_sem,Nat.reduceAdd,Nat.reduceSub,Nat.reduceMul,Nat.reduceEqDiff,Nat.reduceLeDiff,Nat.reduceLT,↓reduceIte,Int.reduceToNat,reduceCtorEq,Int.reduceLT,Int.reduceLE,Int.reduceGT,Int.reduceGE,Int.reduceEq,Int.reduceNe,Int.reduceNeg,Int.reduceAdd,Int.reduceSub]
      refine draw [.qu 0 0, .qu 0 0, .qu 0 0, .qu 0 0, .qu 0 0, .qu 0 0, .qu 0 0, .qu 0 0, .mn 0] (by kernel_rfl) (by kernel_rfl) ?_
      have e5 : ((b.map rb).take (i)).drop k = ((b.take (i)).drop k).map rb := by rw [← List.map_take, ← List.map_drop]
      simp only [go_sem,Nat.reduceAdd,Nat.reduceSub,Nat.reduceMul,Nat.reduceEqDiff,Nat.reduceLeDiff,Nat.reduceLT,↓reduceIte,Int.reduceToNat,reduceCtorEq,Int.reduceLT,Int.reduceLE,Int.reduceGT,Int.reduceGE,Int.reduceEq,Int.reduceNe,Int.reduceNeg,Int.reduceAdd,Int.reduceSub,hkn,hnl,Int.natCast_nonneg,List.length_map,e5]
      refine y_call (enters_of Tryd.func67 rfl (by decide)) (fun _ => ACalls.pure_use (immOf_c (kform op) ((b.take (i)).drop k) false (by simp; omega)) rfl rfl) ?_
      simp only [go_sem,Nat.reduceAdd,Nat.reduceSub,Nat.reduceMul,Nat.reduceEqDiff,Nat.reduceLeDiff,Nat.reduceLT,↓reduceIte,Int.reduceToNat,reduceCtorEq,Int.reduceLT,Int.reduceLE,Int.reduceGT,Int.reduceGE,Int.reduceEq,Int.reduceNe,Int.reduceNeg,Int.reduceAdd,Int.reduceSub]
      exact fin ⟨op, a, b', _⟩ _ 0 _ (by rw [hd, decB, hw, hf0, hs, if_pos rfl]; rfl)
end Go.Proofs.YtojfnagfafoiaaaDoor

set_option maxRecDepth 100000
set_option linter.unusedVariables false
set_option linter.unusedSimpArgs false
namespace Go.Proofs.YtojfnagfafoiaaaDoor
open Go.AM
def Dec.rav (d : Dec) : AV := .agg [iv d.x.op, iv d.x.a, iv d.x.b, iv d.x.imm, iv d.n, iv d.e]
theorem bOr0 (c : UInt8) : bOr .i64 (iw .i64 (0 * 128)) (c.toNat : Int) = c.toNat := by
  have h := c.toNat_lt
  have e : ∀ n : Nat, n < 256 → bOr .i64 (iw .i64 (0 * 128)) (n : Int) = n := by decide +kernel
  exact e _ h
theorem flen_split (f : Int) : flen f = bytesOf f + (if hasA f = true then 2 else 1) := by unfold flen; split <;> omega
theorem rdecode_c (b : List UInt8) (hl : b.length ≤ 1000) : ACalls Tryd.prog 60 [.view false 1 (b.map rb)] [] (fun o H => o = .ret (dec b).rav ∧ H = []) := by
  refine ACalls.up ?_
  refine ACalls.intro (cs := [19]) (n := 148) Tryd.func60 rfl rfl rfl (by kernel_rfl) rfl ?_
  generalize hpost : (fun (o : Out) (H : Heap) => o = Out.ret (dec b).rav ∧ H = []) = post
  have fin : ∀ (x : Ins) (n e : Int) H, .agg [iv x.op, iv x.a, iv x.b, iv x.imm, iv n, iv e] = (dec b).rav → Up 0 post (.ret (.agg [iv x.op, iv x.a, iv x.b, iv x.imm, iv n, iv e])) H := fun x n e H h => finv rfl (by rw [← hpost, h]; exact ⟨rfl, rfl⟩) H
  rcases b with _ | ⟨b0, rest⟩
  · simp only [go_sem,Nat.reduceAdd,Nat.reduceSub,Nat.reduceMul,Nat.reduceEqDiff,Nat.reduceLeDiff,Nat.reduceLT,↓reduceIte,Int.reduceToNat,reduceCtorEq,Int.reduceLT,Int.reduceLE,Int.reduceGT,Int.reduceGE,Int.reduceEq,Int.reduceNe,Int.reduceNeg,Int.reduceAdd,Int.reduceSub]
    exact fin ⟨0, 0, 0, 0⟩ 0 21 _ rfl
  have q1 : ¬ (((b0 :: rest).length : Nat) : Int) = 0 := by rw [List.length_cons]; omega
  have q2 : (0 : Int) < ((b0 :: rest).length : Nat) := by rw [List.length_cons]; omega
  have q3 := u8_lt b0
  have e1 : iw .i64 ((b0.toNat : Int) - 128) = (b0.toNat : Int) - 128 := iw64 (by omega) (by omega)
  generalize hb : b0 :: rest = b at *
  have hb0 : b[0]? = some b0 := by rw [← hb]; rfl
  simp only [go_sem,Nat.reduceAdd,Nat.reduceSub,Nat.reduceMul,Nat.reduceEqDiff,Nat.reduceLeDiff,Nat.reduceLT,↓reduceIte,Int.reduceToNat,reduceCtorEq,Int.reduceLT,Int.reduceLE,Int.reduceGT,Int.reduceGE,Int.reduceEq,Int.reduceNe,Int.reduceNeg,Int.reduceAdd,Int.reduceSub,List.length_map,q1,q2,List.getElem?_map,hb0,iwb,e1,Int.le_refl]
  rcases Decidable.em (isOp ((b0.toNat : Int) - 128) = true) with ho | ho
  rotate_left
  · repeat' (first | (refine gD_dec (fun hg => ?_) (fun hg => ?_) <;> simp only [go_sem,Nat.reduceAdd,Nat.reduceSub,Nat.reduceMul,Nat.reduceEqDiff,Nat.reduceLeDiff,Nat.reduceLT,↓reduceIte,Int.reduceToNat,reduceCtorEq,Int.reduceLT,Int.reduceLE,Int.reduceGT,Int.reduceGE,Int.reduceEq,Int.reduceNe,Int.reduceNeg,Int.reduceAdd,Int.reduceSub,hg,List.length_map,q1,q2,List.getElem?_map,hb0,iwb,e1,Int.le_refl,rform_no ho]) | (refine condD_dec (fun hg => ?_) (fun hg => ?_) <;> simp only [go_sem,Nat.reduceAdd,Nat.reduceSub,Nat.reduceMul,Nat.reduceEqDiff,Nat.reduceLeDiff,Nat.reduceLT,↓reduceIte,Int.reduceToNat,reduceCtorEq,Int.reduceLT,Int.reduceLE,Int.reduceGT,Int.reduceGE,Int.reduceEq,Int.reduceNe,Int.reduceNeg,Int.reduceAdd,Int.reduceSub,hg,List.length_map,q1,q2,List.getElem?_map,hb0,iwb,e1,Int.le_refl,rform_no ho]) | (refine rK_use (enters_of Tryd.func70 rfl (by decide)) (ACalls.pure_use (form_c _) rfl rfl) ?_; simp only [go_sem,Nat.reduceAdd,Nat.reduceSub,Nat.reduceMul,Nat.reduceEqDiff,Nat.reduceLeDiff,Nat.reduceLT,↓reduceIte,Int.reduceToNat,reduceCtorEq,Int.reduceLT,Int.reduceLE,Int.reduceGT,Int.reduceGE,Int.reduceEq,Int.reduceNe,Int.reduceNeg,Int.reduceAdd,Int.reduceSub,List.length_map,q1,q2,List.getElem?_map,hb0,iwb,e1,Int.le_refl,rform_no ho]) | (refine gD_bool (fun hg => ?_) (fun hg => ?_) <;> simp only [go_sem,Nat.reduceAdd,Nat.reduceSub,Nat.reduceMul,Nat.reduceEqDiff,Nat.reduceLeDiff,Nat.reduceLT,↓reduceIte,Int.reduceToNat,reduceCtorEq,Int.reduceLT,Int.reduceLE,Int.reduceGT,Int.reduceGE,Int.reduceEq,Int.reduceNe,Int.reduceNeg,Int.reduceAdd,Int.reduceSub,hg,List.length_map,q1,q2,List.getElem?_map,hb0,iwb,e1,Int.le_refl,rform_no ho]) | (refine condD_bool (fun hg => ?_) (fun hg => ?_) <;> simp only [go_sem,Nat.reduceAdd,Nat.reduceSub,Nat.reduceMul,Nat.reduceEqDiff,Nat.reduceLeDiff,Nat.reduceLT,↓reduceIte,Int.reduceToNat,reduceCtorEq,Int.reduceLT,Int.reduceLE,Int.reduceGT,Int.reduceGE,Int.reduceEq,Int.reduceNe,Int.reduceNeg,Int.reduceAdd,Int.reduceSub,hg,List.length_map,q1,q2,List.getElem?_map,hb0,iwb,e1,Int.le_refl,rform_no ho]))
    all_goals exact fin ⟨0, 0, 0, 0⟩ 0 20 _ (by rw [← hb, dec_cons, if_neg ho]; rfl)
  have hge : ¬ ((b0.toNat : Int) < 128) := by
    rcases opcases ho with h | ⟨k, _, h1, h2⟩ <;> omega
  obtain ⟨f1, f2, f3, f4, f5, f6⟩ := forms_eq _ ho
  simp only [go_sem,Nat.reduceAdd,Nat.reduceSub,Nat.reduceMul,Nat.reduceEqDiff,Nat.reduceLeDiff,Nat.reduceLT,↓reduceIte,Int.reduceToNat,reduceCtorEq,Int.reduceLT,Int.reduceLE,Int.reduceGT,Int.reduceGE,Int.reduceEq,Int.reduceNe,Int.reduceNeg,Int.reduceAdd,Int.reduceSub,hge,List.length_map,q1,q2,List.getElem?_map,hb0,iwb,e1,Int.le_refl]
  refine rK_use (enters_of Tryd.func70 rfl (by decide)) (ACalls.pure_use (form_c _) rfl rfl) ?_
  simp only [go_sem,Nat.reduceAdd,Nat.reduceSub,Nat.reduceMul,Nat.reduceEqDiff,Nat.reduceLeDiff,Nat.reduceLT,↓reduceIte,Int.reduceToNat,reduceCtorEq,Int.reduceLT,Int.reduceLE,Int.reduceGT,Int.reduceGE,Int.reduceEq,Int.reduceNe,Int.reduceNeg,Int.reduceAdd,Int.reduceSub,f1,hge,List.length_map,q1,q2,List.getElem?_map,hb0,iwb,e1,Int.le_refl]
  refine rK_use (enters_of Tryd.func70 rfl (by decide)) (ACalls.pure_use (form_c _) rfl rfl) ?_
  simp only [go_sem,Nat.reduceAdd,Nat.reduceSub,Nat.reduceMul,Nat.reduceEqDiff,Nat.reduceLeDiff,Nat.reduceLT,↓reduceIte,Int.reduceToNat,reduceCtorEq,Int.reduceLT,Int.reduceLE,Int.reduceGT,Int.reduceGE,Int.reduceEq,Int.reduceNe,Int.reduceNeg,Int.reduceAdd,Int.reduceSub]
  refine rK_use (enters_of Tryd.func72 rfl (by decide)) (ACalls.pure_use (operands_c _) rfl rfl) ?_
  rw [f2, f3, f4]
  generalize hop : (b0.toNat : Int) - 128 = op at *
  simp only [go_sem,Nat.reduceAdd,Nat.reduceSub,Nat.reduceMul,Nat.reduceEqDiff,Nat.reduceLeDiff,Nat.reduceLT,↓reduceIte,Int.reduceToNat,reduceCtorEq,Int.reduceLT,Int.reduceLE,Int.reduceGT,Int.reduceGE,Int.reduceEq,Int.reduceNe,Int.reduceNeg,Int.reduceAdd,Int.reduceSub]
  have hfl := flen_le (kform op)
  have hsp := flen_split (kform op)
  refine seq_cut (fun z : Int × Int × Nat => (((((Ch.nil.put 0 (.view false 1 (b.map rb))).put 2 (.ptr 0 0 0)).put 3 (.ptr 1 0 0)).put 4 (iv (rform op))).put 7 (iv (bytesOf (kform op)))).put 8 (iv z.2.2))
    (fun z => [.rows 6 [[iv 0, iv 0, iv 0, iv 0, iv 0, iv 0]], .rows 4 [[iv op, iv z.1, iv z.2.1, iv 0]]])
    (fun z => dec b = decB b op z.1 z.2.1 z.2.2 ∧ z.2.2 ≤ b.length ∧ flen (kform op) = bytesOf (kform op) + z.2.2 ∧ 1 ≤ z.2.2) (by kernel_rfl) ?_ ?_
  · intro K hK
    rcases Decidable.em (hasA (kform op) = true) with hA | hA
    rotate_left
    · simp only [go_sem,Nat.reduceAdd,Nat.reduceSub,Nat.reduceMul,Nat.reduceEqDiff,Nat.reduceLeDiff,Nat.reduceLT,↓reduceIte,Int.reduceToNat,reduceCtorEq,Int.reduceLT,Int.reduceLE,Int.reduceGT,Int.reduceGE,Int.reduceEq,Int.reduceNe,Int.reduceNeg,Int.reduceAdd,Int.reduceSub,hA]
      rw [if_neg hA] at hsp
      refine hK (0, 0, 1) _ _ ⟨by rw [← hb, dec_cons, hop, if_pos ho, if_neg hA], by rw [← hb]; simp, hsp, Nat.le_refl _⟩ (Wk.slots' rfl (by simp [wkS, Ch.get]))
    rw [if_pos hA] at hsp
    simp only [go_sem,Nat.reduceAdd,Nat.reduceSub,Nat.reduceMul,Nat.reduceEqDiff,Nat.reduceLeDiff,Nat.reduceLT,↓reduceIte,Int.reduceToNat,reduceCtorEq,Int.reduceLT,Int.reduceLE,Int.reduceGT,Int.reduceGE,Int.reduceEq,Int.reduceNe,Int.reduceNeg,Int.reduceAdd,Int.reduceSub,hA,List.length_map]
    rcases rest with _ | ⟨b1, rest⟩
    · have q4 : (b.length : Int) < 2 := by rw [← hb]; simp
      simp only [go_sem,Nat.reduceAdd,Nat.reduceSub,Nat.reduceMul,Nat.reduceEqDiff,Nat.reduceLeDiff,Nat.reduceLT,↓reduceIte,Int.reduceToNat,reduceCtorEq,Int.reduceLT,Int.reduceLE,Int.reduceGT,Int.reduceGE,Int.reduceEq,Int.reduceNe,Int.reduceNeg,Int.reduceAdd,Int.reduceSub,q4]
      exact fin ⟨0, 0, 0, 0⟩ 0 21 _ (by rw [← hb, dec_cons, hop, if_pos ho, if_pos hA]; rfl)
    have q4 : ¬ (b.length : Int) < 2 := by rw [← hb]; simp; omega
    have q5 : (1 : Int) < b.length := by rw [← hb]; simp; omega
    have hb1 : b[1]? = some b1 := by rw [← hb]; rfl
    have q6 := u8_lt b1
    simp only [go_sem,Nat.reduceAdd,Nat.reduceSub,Nat.reduceMul,Nat.reduceEqDiff,Nat.reduceLeDiff,Nat.reduceLT,↓reduceIte,Int.reduceToNat,reduceCtorEq,Int.reduceLT,Int.reduceLE,Int.reduceGT,Int.reduceGE,Int.reduceEq,Int.reduceNe,Int.reduceNeg,Int.reduceAdd,Int.reduceSub,q4,q5,List.length_map,List.getElem?_map,hb1]
    rcases Decidable.em (hasB (kform op) = true) with hB | hB
    · simp only [go_sem,Nat.reduceAdd,Nat.reduceSub,Nat.reduceMul,Nat.reduceEqDiff,Nat.reduceLeDiff,Nat.reduceLT,↓reduceIte,Int.reduceToNat,reduceCtorEq,Int.reduceLT,Int.reduceLE,Int.reduceGT,Int.reduceGE,Int.reduceEq,Int.reduceNe,Int.reduceNeg,Int.reduceAdd,Int.reduceSub,hB,List.length_map,q5,List.getElem?_map,hb1]
      rcases Decidable.em ((63 : Int) < (b1.toNat : Int)) with h64 | h64
      · simp only [go_sem,Nat.reduceAdd,Nat.reduceSub,Nat.reduceMul,Nat.reduceEqDiff,Nat.reduceLeDiff,Nat.reduceLT,↓reduceIte,Int.reduceToNat,reduceCtorEq,Int.reduceLT,Int.reduceLE,Int.reduceGT,Int.reduceGE,Int.reduceEq,Int.reduceNe,Int.reduceNeg,Int.reduceAdd,Int.reduceSub,h64]
        exact fin ⟨0, 0, 0, 0⟩ 0 20 _ (by rw [← hb, dec_cons, hop, if_pos ho, if_pos hA]; simp only [hB, if_true]; rw [if_pos (by omega)]; rfl)
      · have e2 : iw .i64 ((b1.toNat : Int).tdiv 8) = (b1.toNat : Int).tdiv 8 := by
          have := u8_ge b1
          rw [Int.tdiv_eq_ediv_of_nonneg this]
          exact iw64 (by omega) (by omega)
        simp only [go_sem,Nat.reduceAdd,Nat.reduceSub,Nat.reduceMul,Nat.reduceEqDiff,Nat.reduceLeDiff,Nat.reduceLT,↓reduceIte,Int.reduceToNat,reduceCtorEq,Int.reduceLT,Int.reduceLE,Int.reduceGT,Int.reduceGE,Int.reduceEq,Int.reduceNe,Int.reduceNeg,Int.reduceAdd,Int.reduceSub,h64,hB,List.length_map,q5,List.getElem?_map,hb1,iwb,e2]
        refine hK ((b1.toNat : Int).tdiv 8, (b1.toNat : Int).tmod 8, 2) _ _ ⟨by rw [← hb, dec_cons, hop, if_pos ho, if_pos hA]; simp only [hB, if_true]; rw [if_neg (by omega)], by rw [← hb]; simp, hsp, by simp⟩ (Wk.slots' rfl (by simp [wkS, Ch.get, i2]))
    · simp only [go_sem,Nat.reduceAdd,Nat.reduceSub,Nat.reduceMul,Nat.reduceEqDiff,Nat.reduceLeDiff,Nat.reduceLT,↓reduceIte,Int.reduceToNat,reduceCtorEq,Int.reduceLT,Int.reduceLE,Int.reduceGT,Int.reduceGE,Int.reduceEq,Int.reduceNe,Int.reduceNeg,Int.reduceAdd,Int.reduceSub,hB,List.length_map,q5,List.getElem?_map,hb1]
      rcases Decidable.em ((7 : Int) < (b1.toNat : Int)) with h64 | h64
      · have bad : ∀ H, Up 0 post (.ret (.agg [iv 0, iv 0, iv 0, iv 0, iv 0, iv 20])) H := fun H => fin ⟨0, 0, 0, 0⟩ 0 20 _ (by rw [← hb, dec_cons, hop, if_pos ho, if_pos hA]; simp only [hB, if_false, Bool.false_eq_true]; rw [if_pos (by omega)]; rfl)
        repeat' (first | (refine gD_dec (fun hg => ?_) (fun hg => ?_) <;> simp only [go_sem,Nat.reduceAdd,Nat.reduceSub,Nat.reduceMul,Nat.reduceEqDiff,Nat.reduceLeDiff,Nat.reduceLT,↓reduceIte,Int.reduceToNat,reduceCtorEq,Int.reduceLT,Int.reduceLE,Int.reduceGT,Int.reduceGE,Int.reduceEq,Int.reduceNe,Int.reduceNeg,Int.reduceAdd,Int.reduceSub,hg,h64,hB,List.length_map,q5,List.getElem?_map,hb1]) | (refine condD_dec (fun hg => ?_) (fun hg => ?_) <;> simp only [go_sem,Nat.reduceAdd,Nat.reduceSub,Nat.reduceMul,Nat.reduceEqDiff,Nat.reduceLeDiff,Nat.reduceLT,↓reduceIte,Int.reduceToNat,reduceCtorEq,Int.reduceLT,Int.reduceLE,Int.reduceGT,Int.reduceGE,Int.reduceEq,Int.reduceNe,Int.reduceNeg,Int.reduceAdd,Int.reduceSub,hg,h64,hB,List.length_map,q5,List.getElem?_map,hb1]) | (refine gD_bool (fun hg => ?_) (fun hg => ?_) <;> simp only [go_sem,Nat.reduceAdd,Nat.reduceSub,Nat.reduceMul,Nat.reduceEqDiff,Nat.reduceLeDiff,Nat.reduceLT,↓reduceIte,Int.reduceToNat,reduceCtorEq,Int.reduceLT,Int.reduceLE,Int.reduceGT,Int.reduceGE,Int.reduceEq,Int.reduceNe,Int.reduceNeg,Int.reduceAdd,Int.reduceSub,hg,h64,hB,List.length_map,q5,List.getElem?_map,hb1]) | (refine condD_bool (fun hg => ?_) (fun hg => ?_) <;> simp only [go_sem,Nat.reduceAdd,Nat.reduceSub,Nat.reduceMul,Nat.reduceEqDiff,Nat.reduceLeDiff,Nat.reduceLT,↓reduceIte,Int.reduceToNat,reduceCtorEq,Int.reduceLT,Int.reduceLE,Int.reduceGT,Int.reduceGE,Int.reduceEq,Int.reduceNe,Int.reduceNeg,Int.reduceAdd,Int.reduceSub,hg,h64,hB,List.length_map,q5,List.getElem?_map,hb1]))
        all_goals exact bad _
      · have h63 : ¬ ((63 : Int) < (b1.toNat : Int)) := by omega
        simp only [go_sem,Nat.reduceAdd,Nat.reduceSub,Nat.reduceMul,Nat.reduceEqDiff,Nat.reduceLeDiff,Nat.reduceLT,↓reduceIte,Int.reduceToNat,reduceCtorEq,Int.reduceLT,Int.reduceLE,Int.reduceGT,Int.reduceGE,Int.reduceEq,Int.reduceNe,Int.reduceNeg,Int.reduceAdd,Int.reduceSub,h64,h63,hB,List.length_map,q5,List.getElem?_map,hb1,iwb]
        refine hK ((b1.toNat : Int), 0, 2) _ _ ⟨by rw [← hb, dec_cons, hop, if_pos ho, if_pos hA]; simp only [hB, if_false, Bool.false_eq_true]; rw [if_neg (by omega)], by rw [← hb]; simp, hsp, by simp⟩ (Wk.slots' rfl (by simp [wkS, Ch.get, i2]))
  · rintro ⟨a, b', k⟩ ⟨hd, hkl, hkf, hk1⟩
    simp only at hd hkl hkf hk1
    simp only [go_sem,Nat.reduceAdd,Nat.reduceSub,Nat.reduceMul,Nat.reduceEqDiff,Nat.reduceLeDiff,Nat.reduceLT,↓reduceIte,Int.reduceToNat,reduceCtorEq,Int.reduceLT,Int.reduceLE,Int.reduceGT,Int.reduceGE,Int.reduceEq,Int.reduceNe,Int.reduceNeg,Int.reduceAdd,Int.reduceSub]
    generalize hw : decide (kform op = 3) = wide
    have hwk : wide = true ↔ bytesOf (kform op) = 10 := by rw [← hw, decide_eq_true_eq]; exact f6
    generalize hn : bytesOf (kform op) = n at *
    have hfn : flen (kform op) = n + k := hkf
    refine loop_fam (fun i : Nat => ((((((Ch.nil.put 0 (.view false 1 (b.map rb))).put 2 (.ptr 0 0 0)).put 3 (.ptr 1 0 0)).put 4 (iv (rform op))).put 7 (iv n)).put 8 (iv k)).put 9 (iv i))
      (fun i => [.rows 6 [[iv 0, iv 0, iv 0, iv 0, iv 0, iv 0]], .rows 4 [[iv op, iv a, iv b', iv 0]]])
      (fun i => n - i) (fun i => i ≤ n ∧ k + i ≤ b.length ∧ scan wide b (n + k) n k = scan wide b (n + k) (n - i) (k + i)) 0 (by kernel_rfl) ⟨Nat.zero_le _, hkl, rfl⟩
      (Wk.slots' rfl (by simp [wkS, Ch.get])) ?_
    rintro i ⟨h2, h3, hs⟩ K hK
    have hdB : ∀ e, scan wide b (n + k) n k = e → e ≠ 0 → dec b = .err e := fun e he hne => by
      rw [hd, decB, hw, hfn, Nat.add_sub_cancel, he, if_neg hne]
    have e0 : iw .i64 ((k : Int) + i) = ((k + i : Nat) : Int) := by rw [iw64] <;> omega
    have e4 : iw .i64 ((i : Int) + 1) = ((i + 1 : Nat) : Int) := by rw [iw64] <;> omega
    simp only [go_sem,Nat.reduceAdd,Nat.reduceSub,Nat.reduceMul,Nat.reduceEqDiff,Nat.reduceLeDiff,Nat.reduceLT,↓reduceIte,Int.reduceToNat,reduceCtorEq,Int.reduceLT,Int.reduceLE,Int.reduceGT,Int.reduceGE,Int.reduceEq,Int.reduceNe,Int.reduceNeg,Int.reduceAdd,Int.reduceSub,List.length_map]
    refine condD_dec (fun hc => ?_) (fun hc => ?_)
    · obtain ⟨m, hm⟩ : ∃ m, n - i = m + 1 := ⟨n - i - 1, by omega⟩
      rw [hm, scan] at hs
      simp only [go_sem,Nat.reduceAdd,Nat.reduceSub,Nat.reduceMul,Nat.reduceEqDiff,Nat.reduceLeDiff,Nat.reduceLT,↓reduceIte,Int.reduceToNat,reduceCtorEq,Int.reduceLT,Int.reduceLE,Int.reduceGT,Int.reduceGE,Int.reduceEq,Int.reduceNe,Int.reduceNeg,Int.reduceAdd,Int.reduceSub,List.length_map,e0]
      refine condD_dec (fun hx => ?_) (fun hx => ?_)
      · have hi : b[k + i]? = none := by rw [List.getElem?_eq_none_iff]; omega
        rw [hi] at hs
        simp only [go_sem,Nat.reduceAdd,Nat.reduceSub,Nat.reduceMul,Nat.reduceEqDiff,Nat.reduceLeDiff,Nat.reduceLT,↓reduceIte,Int.reduceToNat,reduceCtorEq,Int.reduceLT,Int.reduceLE,Int.reduceGT,Int.reduceGE,Int.reduceEq,Int.reduceNe,Int.reduceNeg,Int.reduceAdd,Int.reduceSub]
        exact fin ⟨0, 0, 0, 0⟩ 0 21 _ (by rw [hdB 21 hs (by decide)]; rfl)
      · obtain ⟨c, hi⟩ := at_lt (l := b) (i := k + i) (by omega)
        have hlt : ((k + i : Nat) : Int) < b.length := by omega
        have hcc := u8_lt c
        rw [hi] at hs
        simp only at hs
        have bad : ∀ H, (128 ≤ (c.toNat : Int) ∨ (wide = true ∧ k + i + 1 = n + k ∧ (c.toNat : Int) ≠ 0 ∧ (c.toNat : Int) ≠ 127)) → Up 0 post (.ret (.agg [iv 0, iv 0, iv 0, iv 0, iv 0, iv 20])) H := fun H h => fin ⟨0, 0, 0, 0⟩ 0 20 H (by rw [if_pos h] at hs; rw [hdB 20 hs (by decide)]; rfl)
        have good : ∀ s' H', ¬ (128 ≤ (c.toNat : Int) ∨ (wide = true ∧ k + i + 1 = n + k ∧ (c.toNat : Int) ≠ 0 ∧ (c.toNat : Int) ≠ 127)) → Wk 0 148 s' H' (((((((Ch.nil.put 0 (.view false 1 (b.map rb))).put 2 (.ptr 0 0 0)).put 3 (.ptr 1 0 0)).put 4 (iv (rform op))).put 7 (iv n)).put 8 (iv k)).put 9 (iv (i + 1 : Nat))) [.rows 6 [[iv 0, iv 0, iv 0, iv 0, iv 0, iv 0]], .rows 4 [[iv op, iv a, iv b', iv 0]]] → K s' H' := fun s' H' h hwk =>
          hK (i + 1) s' H' ⟨by omega, by omega, by rw [hs, if_neg h]; congr 1; omega⟩ (by omega) hwk
        have hn10 : n ≤ 10 := by rw [← hn]; exact bytesOf_le _
        rcases Decidable.em ((i : Int) = 9) with h9 | h9
        · have hw1 : wide = true := hwk.2 (by omega)
          have hl1 : k + i + 1 = n + k := by omega
          have e0' : iw .i64 ((k : Int) + 9) = ((k + i : Nat) : Int) := by rw [← h9]; exact e0
          have e4' : iw .i64 10 = ((i + 1 : Nat) : Int) := by rw [← e4, h9]; rfl
          simp only [go_sem,Nat.reduceAdd,Nat.reduceSub,Nat.reduceMul,Nat.reduceEqDiff,Nat.reduceLeDiff,Nat.reduceLT,↓reduceIte,Int.reduceToNat,reduceCtorEq,Int.reduceLT,Int.reduceLE,Int.reduceGT,Int.reduceGE,Int.reduceEq,Int.reduceNe,Int.reduceNeg,Int.reduceAdd,Int.reduceSub,h9,List.length_map,List.getElem?_map,hi,hlt,Int.natCast_nonneg,e0',Int.toNat_natCast]
          repeat' (first | (refine gD_dec (fun hg => ?_) (fun hg => ?_) <;> simp only [go_sem,Nat.reduceAdd,Nat.reduceSub,Nat.reduceMul,Nat.reduceEqDiff,Nat.reduceLeDiff,Nat.reduceLT,↓reduceIte,Int.reduceToNat,reduceCtorEq,Int.reduceLT,Int.reduceLE,Int.reduceGT,Int.reduceGE,Int.reduceEq,Int.reduceNe,Int.reduceNeg,Int.reduceAdd,Int.reduceSub,hg,h9,List.length_map,List.getElem?_map,hi,hlt,Int.natCast_nonneg,e0',e4']) | (refine condD_dec (fun hg => ?_) (fun hg => ?_) <;> simp only [go_sem,Nat.reduceAdd,Nat.reduceSub,Nat.reduceMul,Nat.reduceEqDiff,Nat.reduceLeDiff,Nat.reduceLT,↓reduceIte,Int.reduceToNat,reduceCtorEq,Int.reduceLT,Int.reduceLE,Int.reduceGT,Int.reduceGE,Int.reduceEq,Int.reduceNe,Int.reduceNeg,Int.reduceAdd,Int.reduceSub,hg,h9,List.length_map,List.getElem?_map,hi,hlt,Int.natCast_nonneg,e0',e4']) | (refine gD_bool (fun hg => ?_) (fun hg => ?_) <;> simp only [go_sem,Nat.reduceAdd,Nat.reduceSub,Nat.reduceMul,Nat.reduceEqDiff,Nat.reduceLeDiff,Nat.reduceLT,↓reduceIte,Int.reduceToNat,reduceCtorEq,Int.reduceLT,Int.reduceLE,Int.reduceGT,Int.reduceGE,Int.reduceEq,Int.reduceNe,Int.reduceNeg,Int.reduceAdd,Int.reduceSub,hg,h9,List.length_map,List.getElem?_map,hi,hlt,Int.natCast_nonneg,e0',e4']) | (refine condD_bool (fun hg => ?_) (fun hg => ?_) <;> simp only [go_sem,Nat.reduceAdd,Nat.reduceSub,Nat.reduceMul,Nat.reduceEqDiff,Nat.reduceLeDiff,Nat.reduceLT,↓reduceIte,Int.reduceToNat,reduceCtorEq,Int.reduceLT,Int.reduceLE,Int.reduceGT,Int.reduceGE,Int.reduceEq,Int.reduceNe,Int.reduceNeg,Int.reduceAdd,Int.reduceSub,hg,h9,List.length_map,List.getElem?_map,hi,hlt,Int.natCast_nonneg,e0',e4']))
          all_goals first
            | exact bad _ (.inl (by omega))
            | exact bad _ (.inr ⟨hw1, hl1, by omega, by omega⟩)
            | refine good _ _ (fun h => ?_) (Wk.slots' rfl (by simp [wkS, Ch.get]))
              rcases h with h | ⟨g1, g2, g3, g4⟩ <;> omega
        · simp only [go_sem,Nat.reduceAdd,Nat.reduceSub,Nat.reduceMul,Nat.reduceEqDiff,Nat.reduceLeDiff,Nat.reduceLT,↓reduceIte,Int.reduceToNat,reduceCtorEq,Int.reduceLT,Int.reduceLE,Int.reduceGT,Int.reduceGE,Int.reduceEq,Int.reduceNe,Int.reduceNeg,Int.reduceAdd,Int.reduceSub,h9,List.length_map,List.getElem?_map,hi,hlt,Int.natCast_nonneg,e0]
          repeat' (first | (refine gD_dec (fun hg => ?_) (fun hg => ?_) <;> simp only [go_sem,Nat.reduceAdd,Nat.reduceSub,Nat.reduceMul,Nat.reduceEqDiff,Nat.reduceLeDiff,Nat.reduceLT,↓reduceIte,Int.reduceToNat,reduceCtorEq,Int.reduceLT,Int.reduceLE,Int.reduceGT,Int.reduceGE,Int.reduceEq,Int.reduceNe,Int.reduceNeg,Int.reduceAdd,Int.reduceSub,hg,h9,List.length_map,List.getElem?_map,hi,hlt,Int.natCast_nonneg,e0,e4]) | (refine condD_dec (fun hg => ?_) (fun hg => ?_) <;> simp only [go_sem,Nat.reduceAdd,Nat.reduceSub,Nat.reduceMul,Nat.reduceEqDiff,Nat.reduceLeDiff,Nat.reduceLT,↓reduceIte,Int.reduceToNat,reduceCtorEq,Int.reduceLT,Int.reduceLE,Int.reduceGT,Int.reduceGE,Int.reduceEq,Int.reduceNe,Int.reduceNeg,Int.reduceAdd,Int.reduceSub,hg,h9,List.length_map,List.getElem?_map,hi,hlt,Int.natCast_nonneg,e0,e4]) | (refine gD_bool (fun hg => ?_) (fun hg => ?_) <;> simp only [go_sem,Nat.reduceAdd,Nat.reduceSub,Nat.reduceMul,Nat.reduceEqDiff,Nat.reduceLeDiff,Nat.reduceLT,↓reduceIte,Int.reduceToNat,reduceCtorEq,Int.reduceLT,Int.reduceLE,Int.reduceGT,Int.reduceGE,Int.reduceEq,Int.reduceNe,Int.reduceNeg,Int.reduceAdd,Int.reduceSub,hg,h9,List.length_map,List.getElem?_map,hi,hlt,Int.natCast_nonneg,e0,e4]) | (refine condD_bool (fun hg => ?_) (fun hg => ?_) <;> simp only [go_sem,Nat.reduceAdd,Nat.reduceSub,Nat.reduceMul,Nat.reduceEqDiff,Nat.reduceLeDiff,Nat.reduceLT,↓reduceIte,Int.reduceToNat,reduceCtorEq,Int.reduceLT,Int.reduceLE,Int.reduceGT,Int.reduceGE,Int.reduceEq,Int.reduceNe,Int.reduceNeg,Int.reduceAdd,Int.reduceSub,hg,h9,List.length_map,List.getElem?_map,hi,hlt,Int.natCast_nonneg,e0,e4]))
          all_goals first
            | exact bad _ (.inl (by omega))
            | refine good _ _ (fun h => ?_) (Wk.slots' rfl (by simp [wkS, Ch.get]))
              rcases h with h | ⟨g1, g2, g3, g4⟩
              · omega
              · have := hwk.1 g1
                omega
    · have hin : i = n := by omega
      subst hin
      rw [Nat.sub_self, scan] at hs
      have e5 : ((b.map rb).take (k + i)).drop k = ((b.take (k + i)).drop k).map rb := by rw [← List.map_take, ← List.map_drop]
      have hin : (((k + i : Nat)) : Int) ≤ b.length := by omega
      have hkn : (k : Int) ≤ ((k + i : Nat) : Int) := by omega
      have hfin : dec b = ⟨⟨op, a, b', immL ((b.take (k + i)).drop k) (imm0 (kform op) ((b.take (k + i)).drop k))⟩, k + i, 0⟩ := by
        rw [hd, decB, hw, hfn, Nat.add_sub_cancel, hs, if_pos rfl, Nat.add_comm i k]
      have hlen : ((b.take (k + i)).drop k).length = i := by simp; omega
      have fin2 : ∀ (v : Int) (e : Nat) H, v = immL ((b.take (k + i)).drop k) (imm0 (kform op) ((b.take (k + i)).drop k)) → e = k + i → Up 0 post (.ret (.agg [iv op, iv a, iv b', iv v, iv e, iv 0])) H := fun v e H h1 h2 => fin ⟨op, a, b', v⟩ e 0 H (by rw [hfin, h1, h2]; rfl)
      have h80 : kform op = 8 → i = 1 := fun h => by rw [← hn, h]; rfl
      rcases Decidable.em ((0 : Int) < (i : Int)) with hi0 | hi0
      · simp only [go_sem,Nat.reduceAdd,Nat.reduceSub,Nat.reduceMul,Nat.reduceEqDiff,Nat.reduceLeDiff,Nat.reduceLT,↓reduceIte,Int.reduceToNat,reduceCtorEq,Int.reduceLT,Int.reduceLE,Int.reduceGT,Int.reduceGE,Int.reduceEq,Int.reduceNe,Int.reduceNeg,Int.reduceAdd,Int.reduceSub,hi0,e0,hkn,hin,Int.natCast_nonneg,List.length_map,e5,Int.toNat_natCast]
        refine rK_use (enters_of Tryd.func92 rfl (by decide)) (ACalls.pure_use (number_c ((b.take (k + i)).drop k) false (by omega) (by omega)) rfl rfl) ?_
        rcases Decidable.em (kform op = 8) with h8 | h8
        · have hr8 := f5.2 h8
          have i1 := h80 h8
          obtain ⟨c, hcx⟩ := at_lt (l := b) (i := k) (by omega)
          have hkb : (k : Int) < b.length := by omega
          simp only [go_sem,Nat.reduceAdd,Nat.reduceSub,Nat.reduceMul,Nat.reduceEqDiff,Nat.reduceLeDiff,Nat.reduceLT,↓reduceIte,Int.reduceToNat,reduceCtorEq,Int.reduceLT,Int.reduceLE,Int.reduceGT,Int.reduceGE,Int.reduceEq,Int.reduceNe,Int.reduceNeg,Int.reduceAdd,Int.reduceSub,hr8,e0,List.length_map,List.getElem?_map,hcx,hkb,Int.natCast_nonneg,iwb]
          refine fin2 _ _ _ ?_ rfl
          have hbs : (b.take (k + i)).drop k = [c] := by
            rw [i1, List.take_add_one, hcx, List.drop_append_of_le_length (by simp; omega), List.drop_eq_nil_of_le (by simp; omega)]; rfl
          rw [hbs, h8]
          exact (bOr0 c).symm
        · have hr8 : ¬ rform op = 10 := fun h => h8 (f5.1 h)
          simp only [go_sem,Nat.reduceAdd,Nat.reduceSub,Nat.reduceMul,Nat.reduceEqDiff,Nat.reduceLeDiff,Nat.reduceLT,↓reduceIte,Int.reduceToNat,reduceCtorEq,Int.reduceLT,Int.reduceLE,Int.reduceGT,Int.reduceGE,Int.reduceEq,Int.reduceNe,Int.reduceNeg,Int.reduceAdd,Int.reduceSub,hr8,e0]
          refine fin2 _ _ _ ?_ rfl
          have : imm0 0 ((b.take (k + i)).drop k) = imm0 (kform op) ((b.take (k + i)).drop k) := by
            unfold imm0
            simp [h8]
          rw [this]
      · have hr8 : ¬ rform op = 10 := fun h => by have := h80 (f5.1 h); omega
        simp only [go_sem,Nat.reduceAdd,Nat.reduceSub,Nat.reduceMul,Nat.reduceEqDiff,Nat.reduceLeDiff,Nat.reduceLT,↓reduceIte,Int.reduceToNat,reduceCtorEq,Int.reduceLT,Int.reduceLE,Int.reduceGT,Int.reduceGE,Int.reduceEq,Int.reduceNe,Int.reduceNeg,Int.reduceAdd,Int.reduceSub,hi0,hr8,e0]
        refine fin2 _ _ _ ?_ rfl
        have hbs : (b.take (k + i)).drop k = [] := List.length_eq_zero_iff.1 (by omega)
        rw [hbs]
        simp [immL, imm0]
end Go.Proofs.YtojfnagfafoiaaaDoor
