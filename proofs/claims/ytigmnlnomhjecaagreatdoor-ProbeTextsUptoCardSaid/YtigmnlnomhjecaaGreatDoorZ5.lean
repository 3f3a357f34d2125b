/- Texts joined, without what is not needed. No condition. -/
import Derived.Test.YtigmnlnomhjecaaGreatDoorZ4
set_option linter.unusedVariables false
namespace Go.Glob
def onto (t : Bs) : List Bs → List Bs
  | [] => [t]
  | p :: l => (t ++ p) :: l
def dvd : Bs → List Bs
  | [] => [[]]
  | [c] => if c = 58 then [[], []] else [[c]]
  | c :: d :: r => if c = 58 then [] :: dvd (d :: r) else if c = 92 then onto [c, d] (dvd r) else onto [c] (dvd (d :: r))
inductive Cl : Bs → Prop where
  | nil : Cl []
  | esc (d : UInt8) {t : Bs} (h : Cl t) : Cl (92 :: d :: t)
  | one {c : UInt8} {t : Bs} (h1 : c ≠ 92) (h2 : c ≠ 58) (h : Cl t) : Cl (c :: t)
theorem Cl.app {a b : Bs} (ha : Cl a) (hb : Cl b) : Cl (a ++ b) := by
  induction ha with
  | nil => exact hb
  | esc d h ih => exact .esc d ih
  | one h1 h2 h ih => exact .one h1 h2 ih
theorem dvd_ne : ∀ s, dvd s ≠ []
  | [] => by simp [dvd]
  | [c] => by unfold dvd; split <;> simp
  | c :: d :: r => by
    have o : ∀ t l, onto t l ≠ [] := fun t l => by cases l <;> simp [onto]
    unfold dvd
    split
    · simp
    · split
      · exact o _ _
      · exact o _ _
theorem dvd_colon (r : Bs) : dvd (58 :: r) = [] :: dvd r := by
  cases r with
  | nil => rfl
  | cons d r => rw [dvd, if_pos rfl]
theorem dvd_one {c : UInt8} (h1 : c ≠ 92) (h2 : c ≠ 58) (r : Bs) : dvd (c :: r) = onto [c] (dvd r) := by
  cases r with
  | nil => simp [dvd, if_neg h2, onto]
  | cons d r => rw [dvd, if_neg h2, if_neg h1]
theorem dvd_esc (d : UInt8) (r : Bs) : dvd (92 :: d :: r) = onto [92, d] (dvd r) := by
  rw [dvd, if_neg (by decide), if_pos rfl]
theorem onto_onto (a b : Bs) {l : List Bs} (h : l ≠ []) : onto a (onto b l) = onto (a ++ b) l := by
  cases l with
  | nil => exact absurd rfl h
  | cons p l => simp [onto]
theorem onto_nil {l : List Bs} (h : l ≠ []) : onto [] l = l := by
  cases l with
  | nil => exact absurd rfl h
  | cons p l => rfl
theorem dvd_cl {a : Bs} (h : Cl a) (r : Bs) : dvd (a ++ r) = onto a (dvd r) := by
  induction h with
  | nil => rw [List.nil_append, onto_nil (dvd_ne r)]
  | esc d h ih => rw [List.cons_append, List.cons_append, dvd_esc, ih, onto_onto _ _ (dvd_ne r)]; rfl
  | one h1 h2 h ih => rw [List.cons_append, dvd_one h1 h2, ih, onto_onto _ _ (dvd_ne r)]; rfl
theorem dvd_part {a : Bs} (h : Cl a) (r : Bs) : dvd (a ++ 58 :: r) = a :: dvd r := by
  rw [dvd_cl h, dvd_colon, onto, List.append_nil]
theorem dvd_last {a : Bs} (h : Cl a) : dvd a = [a] := by
  have := dvd_cl h []
  rw [List.append_nil] at this
  rw [this]
  simp [dvd, onto]
theorem chr_cl {s r : Bs} {c : UInt8} (h : chr s = some (c, r)) : ∃ t, s = t ++ r ∧ Cl t := by
  cases s with
  | nil => cases h
  | cons a s =>
    unfold chr at h
    simp only at h
    split at h
    · rename_i ha
      subst ha
      cases s with
      | nil => cases h
      | cons d s =>
        cases h
        exact ⟨[92, c], rfl, .esc c .nil⟩
    · rename_i ha
      split at h
      · cases h
      · rename_i hb
        cases h
        refine ⟨[c], rfl, .one ha (fun e => hb ?_) .nil⟩
        subst e
        rfl
theorem item_cl {s r : Bs} {h h' : UInt8 → Bool} (e : item s h = some (h', r)) : ∃ t, s = t ++ r ∧ Cl t := by
  unfold item at e
  cases hc : chr s with
  | none => rw [hc] at e; cases e
  | some y =>
    obtain ⟨lo, r1⟩ := y
    rw [hc] at e
    obtain ⟨t, rfl, ht⟩ := chr_cl hc
    simp only at e
    cases r1 with
    | nil =>
      simp only [tail, Option.some.injEq, Prod.mk.injEq] at e
      obtain ⟨_, rfl⟩ := e
      exact ⟨t, rfl, ht⟩
    | cons a r1 =>
      rw [tail] at e
      split at e
      · rename_i ha
        subst ha
        cases hc2 : chr r1 with
        | none => rw [hc2] at e; cases e
        | some z =>
          rw [hc2] at e
          simp only [Option.map_some, Option.some.injEq, Prod.mk.injEq] at e
          obtain ⟨_, rfl⟩ := e
          obtain ⟨t2, h2, ht2⟩ := chr_cl hc2
          exact ⟨t ++ 45 :: t2, by rw [h2]; simp, ht.app (.one (by decide) (by decide) ht2)⟩
      · simp only [Option.some.injEq, Prod.mk.injEq] at e
        obtain ⟨_, rfl⟩ := e
        exact ⟨t, rfl, ht⟩
theorem items_cl : ∀ {n : Nat} {s r : Bs} {h h' : UInt8 → Bool}, items n s h = some (h', r) → ∃ t, s = t ++ r ∧ Cl t
  | 0, s, r, h, h', e => by cases e
  | n + 1, s, r, h, h', e => by
    rw [items] at e
    cases hi : item s h with
    | none => rw [hi] at e; cases e
    | some y =>
      obtain ⟨h1, r1⟩ := y
      rw [hi] at e
      simp only at e
      obtain ⟨t, rfl, ht⟩ := item_cl hi
      cases r1 with
      | nil => cases e
      | cons d r1 =>
        simp only at e
        split at e
        · rename_i hd
          subst hd
          simp only [Option.some.injEq, Prod.mk.injEq] at e
          obtain ⟨_, rfl⟩ := e
          exact ⟨t ++ [93], by simp, ht.app (.one (by decide) (by decide) .nil)⟩
        · obtain ⟨t2, h2, ht2⟩ := items_cl e
          exact ⟨t ++ t2, by rw [h2]; simp, ht.app ht2⟩
theorem setP_cl {s r : Bs} {e : El} (h : setP s = some (e, r)) : ∃ t, s = t ++ r ∧ Cl t := by
  unfold setP at h
  cases hi : items (negs s).2.length (negs s).2 (fun _ => false) with
  | none => rw [hi] at h; cases h
  | some y =>
    rw [hi] at h
    simp only [Option.map_some, Option.some.injEq, Prod.mk.injEq] at h
    obtain ⟨_, rfl⟩ := h
    obtain ⟨t, h2, ht⟩ := items_cl (h' := y.1) (r := y.2) hi
    cases s with
    | nil => exact ⟨t, h2, ht⟩
    | cons c s =>
      by_cases hc : c = 33 ∨ c = 94
      · rw [negs, if_pos hc] at h2
        simp only at h2
        refine ⟨c :: t, by rw [h2]; simp, .one ?_ ?_ ht⟩
        · rintro rfl; revert hc; decide
        · rintro rfl; revert hc; decide
      · rw [negs, if_neg hc] at h2
        exact ⟨t, h2, ht⟩
theorem elP_cl {s r : Bs} {e : El} (h : elP s = some (e, r)) : ∃ t, s = t ++ r ∧ Cl t := by
  cases s with
  | nil => cases h
  | cons c s =>
    rw [elP_cons] at h
    split at h
    · rename_i h1; subst h1
      cases h
      exact ⟨[42], rfl, .one (by decide) (by decide) .nil⟩
    split at h
    · rename_i h1; subst h1
      cases h
      exact ⟨[63], rfl, .one (by decide) (by decide) .nil⟩
    split at h
    · rename_i h1; subst h1
      obtain ⟨t, rfl, ht⟩ := setP_cl h
      exact ⟨91 :: t, rfl, .one (by decide) (by decide) ht⟩
    split at h
    · rename_i h1; subst h1
      cases s with
      | nil => cases h
      | cons d s =>
        cases h
        exact ⟨[92, d], rfl, .esc d .nil⟩
    rename_i h4
    split at h
    · cases h
    · rename_i h5
      cases h
      exact ⟨[c], rfl, .one h4 (fun e => h5 (.inr e)) .nil⟩
theorem els_cl : ∀ {n : Nat} {s : Bs} {l : List El}, els n s = some l → Cl s
  | n, [], l, h => .nil
  | 0, c :: s, l, h => by cases h
  | n + 1, c :: s, l, h => by
    rw [els_cons (by simp)] at h
    cases he : elP (c :: s) with
    | none => rw [he] at h; cases h
    | some y =>
      obtain ⟨e, r⟩ := y
      rw [he] at h
      simp only at h
      obtain ⟨t, hs, ht⟩ := elP_cl he
      cases hr : els n r with
      | none => rw [hr] at h; cases h
      | some l' =>
        rw [hs]
        exact ht.app (els_cl hr)
theorem prs_cl {s : Bs} (h : (prs s).isSome = true) : Cl s := by
  obtain ⟨l, hl⟩ := Option.isSome_iff_exists.1 h
  exact els_cl (prs_some.1 hl).2
def join : List Bs → Bs
  | [] => []
  | [a] => a
  | a :: b :: l => a ++ 58 :: join (b :: l)
theorem join_cons (a : Bs) {l : List Bs} (h : l ≠ []) : join (a :: l) = a ++ 58 :: join l := by
  cases l with
  | nil => exact absurd rfl h
  | cons b l => rfl
theorem join_onto (t : Bs) {l : List Bs} (h : l ≠ []) : join (onto t l) = t ++ join l := by
  cases l with
  | nil => exact absurd rfl h
  | cons p l =>
    cases l with
    | nil => rfl
    | cons q l => rw [onto, join_cons (t ++ p) (l := q :: l) (by simp), join_cons p (l := q :: l) (by simp), List.append_assoc]
theorem join_dvd : ∀ s, join (dvd s) = s
  | [] => rfl
  | [c] => by
    unfold dvd
    split
    · rename_i h; subst h; rfl
    · rfl
  | c :: d :: r => by
    unfold dvd
    split
    · rename_i h; subst h
      rw [join_cons _ (dvd_ne _), join_dvd (d :: r)]
      rfl
    · split
      · rw [join_onto _ (dvd_ne _), join_dvd r]; rfl
      · rw [join_onto _ (dvd_ne _), join_dvd (d :: r)]; rfl
theorem dvd_join : ∀ {l : List Bs}, l ≠ [] → (∀ a ∈ l, Cl a) → dvd (join l) = l
  | [], h, _ => absurd rfl h
  | [a], _, hc => dvd_last (hc a (by simp))
  | a :: b :: l, _, hc => by
    rw [join, dvd_part (hc a (by simp)), dvd_join (by simp) (fun x hx => hc x (by simp at hx ⊢; right; exact hx))]
def pad (l : List Bs) : List Bs := List.replicate (4 - l.length) [] ++ l
theorem join_empties (n : Nat) {l : List Bs} (h : l ≠ []) : join (List.replicate n [] ++ l) = List.replicate n 58 ++ join l := by
  induction n with
  | zero => rfl
  | succ n ih => rw [List.replicate_succ, List.cons_append, join_cons _ (by simp [h]), ih, List.replicate_succ]; rfl
theorem join_pad (s : Bs) : join (pad (dvd s)) = List.replicate (4 - (dvd s).length) 58 ++ s := by rw [pad, join_empties _ (dvd_ne s), join_dvd]
structure Dsc where
  p : Bs
  m : Bs
  f : Bs
  n : Bs
  deriving DecidableEq
def Dsc.l (d : Dsc) : List Bs := [d.p, d.m, d.f, d.n]
def Dsc.ok (d : Dsc) : Bool := d.l.all fun s => (prs s).isSome
def dsc : List Bs → Dsc
  | [a, b, c, d] => ⟨a, b, c, d⟩
  | _ => ⟨[], [], [], []⟩
def d0 : Dsc := ⟨[], [], [], []⟩
def pdesc (s : Bs) : Dsc × Int := if 200 < s.length then (d0, 2) else if 4 < (dvd s).length then (d0, 100) else if (dsc (pad (dvd s))).ok = true then (dsc (pad (dvd s)), 0) else (d0, 100)
def text (d : Dsc) : Bs × Int := if d.ok = true ∧ (join d.l).length ≤ 200 then (join d.l, 0) else ([], 100)
theorem dsc_l (d : Dsc) : dsc d.l = d := rfl
theorem l_dsc {l : List Bs} (h : l.length = 4) : (dsc l).l = l := by
  obtain ⟨a, b, c, d, rfl⟩ : ∃ a b c d, l = [a, b, c, d] := by
    match l, h with
    | [a, b, c, d], _ => exact ⟨a, b, c, d, rfl⟩
  rfl
theorem pdesc_text {d : Dsc} (h : (text d).2 = 0) : pdesc (text d).1 = (d, 0) := by
  unfold text at h ⊢
  split at h
  · rename_i hd
    rw [if_pos hd]
    have hc : ∀ a ∈ d.l, Cl a := fun a ha => prs_cl (List.all_eq_true.1 hd.1 a ha)
    have hj : dvd (join d.l) = d.l := dvd_join (by simp [Dsc.l]) hc
    have hp : pad d.l = d.l := rfl
    rw [pdesc, if_neg (by simp only; omega)]
    simp only [hj, hp, dsc_l]
    rw [if_neg (by simp [Dsc.l]), if_pos hd.1]
  · cases h
theorem text_pdesc {s : Bs} (h : (pdesc s).2 = 0) : ((text (pdesc s).1).2 = 0 → ∃ n, (text (pdesc s).1).1 = List.replicate n 58 ++ s) ∧ ((text (pdesc s).1).2 ≠ 0 → 190 < s.length) := by
  unfold pdesc at h ⊢
  split at h
  · cases h
  rename_i h1
  split at h
  · cases h
  rename_i h2
  split at h
  · rename_i h3
    rw [if_neg h1, if_neg h2, if_pos h3]
    have hl : (dsc (pad (dvd s))).l = pad (dvd s) := l_dsc (by simp [pad]; omega)
    have hj := join_pad s
    have hn : 1 ≤ (dvd s).length := List.length_pos_iff.2 (dvd_ne s)
    unfold text
    simp only [hl, hj, h3, true_and]
    split
    · exact ⟨fun _ => ⟨_, rfl⟩, fun h => absurd rfl h⟩
    · rename_i h4
      refine ⟨fun h => (by cases h), fun _ => ?_⟩
      simp at h4
      omega
  · cases h
end Go.Glob
set_option linter.unusedVariables false
namespace Go.Glob
def mch (d x : Dsc) : Bool := d.ok && gl d.p x.p && gl d.m x.m && gl d.f x.f && gl d.n x.n
def Dsc.esc (x : Dsc) : Dsc := ⟨Glob.esc x.p, Glob.esc x.m, Glob.esc x.f, Glob.esc x.n⟩
def selFrom (d : Dsc) : List Dsc → Nat → List Nat
  | [], _ => []
  | x :: l, i => if mch d x = true then i :: selFrom d l (i + 1) else selFrom d l (i + 1)
def sel (d : Dsc) (l : List Dsc) : List Nat := selFrom d l 0
end Go.Glob
set_option maxRecDepth 100000
set_option linter.unusedVariables false
set_option linter.unusedSimpArgs false
namespace Go.Proofs.YtigmnlnomhjecaaGreatDoor
open Go.AM
structure Sp where
  perm : List Int
  byt : List UInt8
def Sp.av (s : Sp) : AV := .agg [.view false 1 (s.perm.map r1), .view false 1 (s.byt.map rb)]
def okP (p : Int) : Bool := decide (p = 0) || decide (p = 1) || decide (p = 3) || decide (p = 4)
structure Sp.ok (s : Sp) : Prop where
  p32 : s.perm.length ≤ 32
  len : s.byt.length = 64 * s.perm.length
  all : s.perm.all okP = true
instance (s : Sp) : Decidable s.ok := decidable_of_iff (s.perm.length ≤ 32 ∧ s.byt.length = 64 * s.perm.length ∧ s.perm.all okP = true) ⟨fun h => ⟨h.1, h.2.1, h.2.2⟩, fun h => ⟨h.1, h.2, h.3⟩⟩
def Sp.chk (s : Sp) : Int := if s.ok then 0 else 30
theorem all_step {α : Type} {f : α → Bool} {l : List α} {i : Nat} {y : α} (h : l[i]? = some y) (ha : (l.take i).all f = true) (hy : f y = true) : (l.take (i + 1)).all f = true := by
  rw [List.take_add_one, h]
  simp [ha, hy]
theorem all_not {α : Type} {f : α → Bool} {l : List α} {i : Nat} {y : α} (h : l[i]? = some y) (hy : f y = false) : l.all f ≠ true := fun ha => by
  have := List.all_eq_true.1 ha y (List.mem_of_getElem? h)
  rw [hy] at this
  cases this
theorem mcheck_c (s : Sp) : ACalls Tryz.prog 70 [s.av] [] (fun o H => o = .ret (iv s.chk) ∧ H = []) := by
  refine ACalls.up ?_
  refine ACalls.intro (cs := []) (n := 41) Tryz.func70 rfl rfl rfl (by kernel_rfl) rfl ?_
  generalize hpost : (fun (o : Out) (H : Heap) => o = Out.ret (iv s.chk) ∧ H = []) = post
  have fin : ∀ n H, n = s.chk → Up 0 post (.ret (iv n)) H := fun n H e => finv rfl (by rw [← hpost, e]; exact ⟨rfl, rfl⟩) H
  simp only [go_sem,Sp.av,List.length_map]
  repeat' (first | (refine gD_dec (fun hg => ?_) (fun hg => ?_) <;> simp only [go_sem,hg,List.length_map]) | (refine condD_dec (fun hg => ?_) (fun hg => ?_) <;> simp only [go_sem,hg,List.length_map]))
  · exact fin _ _ (by rw [Sp.chk, if_neg (fun h => by have := h.p32; omega)])
  · rename_i h1
    have h2 := hg
    rw [iw64 (by omega) (by omega)] at h2
    exact fin _ _ (by rw [Sp.chk, if_neg (fun h => by have := h.len; omega)])
  · rename_i h1
    have h2 := hg
    rw [iw64 (by omega) (by omega)] at h2
    refine loop_fam (fun i : Nat => (((Ch.nil.put 20 (.view false 1 (s.perm.map r1))).put 21 (iv s.perm.length)).put 22 (iv i))) (fun _ => [.rows 2 [[.view false 1 (s.perm.map r1), .view false 1 (s.byt.map rb)]]])
      (fun i => s.perm.length - i) (fun i => i ≤ s.perm.length ∧ (s.perm.take i).all okP = true) 0 (by kernel_rfl) ⟨Nat.zero_le _, rfl⟩ (Wk.slots' rfl (by simp [wkS, Ch.get])) ?_
    rintro i ⟨hi, ha⟩ K hK
    simp only [go_sem]
    refine condD_dec (fun hc => ?_) (fun hc => ?_)
    · have hc' : i < s.perm.length := by omega
      obtain ⟨y, hy⟩ := at_lt hc'
      have e1 : iw .i64 ((i : Int) + 1) = ((i + 1 : Nat) : Int) := by rw [iw64] <;> omega
      simp only [go_sem,List.length_map,List.getElem?_map,hy,hc,Int.natCast_nonneg]
      repeat' (first | (refine gD_dec (fun hg => ?_) (fun hg => ?_) <;> simp only [go_sem,hg,List.length_map,e1]) | (refine condD_dec (fun hg => ?_) (fun hg => ?_) <;> simp only [go_sem,hg,List.length_map,e1]))
      case refine_1.refine_1.refine_1.refine_1 => exact fin _ _ (by rw [Sp.chk, if_neg (fun h => all_not hy (by simp [okP, *]) h.all)])
      all_goals exact hK (i + 1) _ _ ⟨hc', all_step hy ha (by simp_all [okP])⟩ (by omega) (Wk.slots' rfl (by simp [wkS, Ch.get]))
    · simp only [go_sem]
      have : i = s.perm.length := by omega
      subst this
      rw [List.take_length] at ha
      exact fin _ _ (by rw [Sp.chk, if_pos ⟨by omega, by omega, ha⟩])
def Sp.has (s : Sp) (x : Int) : Bool := decide (0 ≤ x) && decide (x < s.byt.length)
theorem has_c (s : Sp) (x : Int) : ACalls Tryz.prog 116 [s.av, iv x] [] (fun o H => o = .ret (.bool (s.has x)) ∧ H = []) := by
  refine ACalls.up ?_
  refine ACalls.intro (cs := []) (n := 14) Tryz.func116 rfl rfl rfl (by kernel_rfl) rfl ?_
  generalize hpost : (fun (o : Out) (H : Heap) => o = Out.ret (.bool (s.has x)) ∧ H = []) = post
  have fin : ∀ b H, b = s.has x → Up 0 post (.ret (.bool b)) H := fun n H e => finv rfl (by rw [← hpost, e]; exact ⟨rfl, rfl⟩) H
  simp only [go_sem,Sp.av]
  repeat' (first | (refine gD_dec (fun hg => ?_) (fun hg => ?_) <;> simp only [go_sem,hg,List.length_map]) | (refine condD_dec (fun hg => ?_) (fun hg => ?_) <;> simp only [go_sem,hg,List.length_map]))
  all_goals exact fin _ _ (by simp [Sp.has, *])
structure Flt where
  kind : Int
  pos : Int
def Flt.cells (f : Flt) : List AV := [iv f.kind, iv f.pos]
def Sp.pm (s : Sp) (x : Int) : Int := (s.perm[(x.tdiv 64).toNat]?).getD 0
theorem Sp.pm_at {s : Sp} (hs : s.ok) {x : Int} (hx : s.has x = true) : ∃ p, s.perm[(x.tdiv 64).toNat]? = some p ∧ s.pm x = p ∧ okP p = true ∧ 0 ≤ x.tdiv 64 ∧ x.tdiv 64 < s.perm.length := by
  simp only [Sp.has, Bool.and_eq_true, decide_eq_true_eq] at hx
  have hl := hs.len
  have e : x.tdiv 64 = x / 64 := Int.tdiv_eq_ediv_of_nonneg hx.1
  obtain ⟨p, hp⟩ := at_lt (l := s.perm) (i := (x.tdiv 64).toNat) (by omega)
  exact ⟨p, hp, by simp [Sp.pm, hp], List.all_eq_true.1 hs.all p (List.mem_of_getElem? hp), by omega, by omega⟩
end Go.Proofs.YtigmnlnomhjecaaGreatDoor
set_option maxRecDepth 100000
set_option linter.unusedVariables false
set_option linter.unusedSimpArgs false
namespace Go.Proofs.YtigmnlnomhjecaaGreatDoor
open Go.AM
def I64 (x : Int) : Prop := -9223372036854775808 ≤ x ∧ x ≤ 9223372036854775807
theorem I64.iw {x : Int} (h : I64 x) : iw .i64 x = x := iw64 h.1 h.2
theorem Sp.chk_ok {s : Sp} (h : s.ok) : s.chk = 0 := if_pos h
def Sp.fet (s : Sp) (pos : Int) : Nat → Nat → List UInt8
  | 0, _ => []
  | m + 1, i => if s.has (iw .i64 (pos + i)) = true ∧ s.pm (iw .i64 (pos + i)) = 4 then (s.byt[(iw .i64 (pos + i)).toNat]?).getD 0 :: s.fet pos m (i + 1) else []
theorem Sp.fet_len (s : Sp) (pos : Int) : ∀ (m i : Nat), (s.fet pos m i).length ≤ m
  | 0, _ => Nat.le_refl _
  | m + 1, i => by
    rw [Sp.fet]
    split
    · have := Sp.fet_len s pos m (i + 1); simp; omega
    · simp
theorem Sp.byt_at {s : Sp} {x : Int} (hx : s.has x = true) : ∃ b, s.byt[x.toNat]? = some b ∧ 0 ≤ x ∧ x < s.byt.length := by
  simp only [Sp.has, Bool.and_eq_true, decide_eq_true_eq] at hx
  obtain ⟨b, hb⟩ := at_lt (l := s.byt) (i := x.toNat) (by omega)
  exact ⟨b, hb, hx.1, hx.2⟩
theorem fetch_c (s : Sp) (hs : s.ok) (pos : Int) (n : Nat) (hn : n ≤ 2048) :
    ACalls Tryz.prog 96 [s.av, iv pos, iv n] [] (fun o H => o = .ret (.tuple [.view false 1 ((s.fet pos n 0).map rb), iv 0]) ∧ H = []) := by
  refine ACalls.up ?_
  refine ACalls.intro (cs := []) (n := 53) Tryz.func96 rfl rfl rfl (by kernel_rfl) rfl ?_
  generalize hpost : (fun (o : Out) (H : Heap) => o = Out.ret (.tuple [.view false 1 ((s.fet pos n 0).map rb), iv 0]) ∧ H = []) = post
  simp only [go_sem,Sp.av]
  refine rK_use (Go.AM.enters_of Tryz.func70 rfl (by decide)) (ACalls.pure_use (mcheck_c s) rfl rfl) ?_
  rw [Sp.chk_ok hs]
  have h1 : ¬ ((n : Int) < 0) := by omega
  have h2 : ¬ ((2048 : Int) < n) := by omega
  simp only [go_sem,h1,h2]
  have fin : ∀ (acc : List UInt8) (H : Heap), acc = s.fet pos n 0 → H = [.rows 2 [[.view false 1 (s.perm.map r1), .view false 1 (s.byt.map rb)]], .rows 1 (acc.map rb)] → Up 0 post (.ret (.tuple [.sl 1 0 acc.length none, iv 0])) H := fun acc H e1 e2 => by
    subst e2
    refine up_one 1 1 (acc.map rb) rfl (rb_lt0 _) (by simp [Out.fzOk, AV.fzOk, fzOkL]) ?_ ?_
    · simp [Out.fz, AV.fz, fzL, Out.lt, AV.lt, ltL]
    · rw [← hpost, ← e1]
      have e4 : (acc.map rb).take acc.length = acc.map rb := List.take_of_length_le (by simp)
      simp [Out.fz, AV.fz, fzL, e4]
  refine loop_fam (fun x : Nat × List UInt8 => (((((Ch.nil.put 1 (iv pos)).put 3 (.ptr 0 0 0)).put 9 (.sl 1 0 x.2.length none)).put 23 (iv n)).put 24 (iv x.1)))
    (fun x => [.rows 2 [[.view false 1 (s.perm.map r1), .view false 1 (s.byt.map rb)]], .rows 1 (x.2.map rb)])
    (fun x => n - x.1) (fun x => x.1 ≤ n ∧ x.2.length ≤ x.1 ∧ s.fet pos n 0 = x.2 ++ s.fet pos (n - x.1) x.1) (0, []) (by kernel_rfl) ⟨Nat.zero_le _, by simp, by simp⟩ ?_ ?_
  · exact (Wk.slots (s' := (((((Ch.nil.put 1 (iv pos)).put 3 (.ptr 0 0 0)).put 9 (.view true 0 [])).put 23 (iv n)).put 24 (iv 0))) (by simp [wkS, Ch.get])).trans
      ((Wk.ghost (.rows 1 [])).trans (Wk.le (.cons _ (.cons _ (.cons _ (LeC.refl _) (.sl0 0 1 0)) (.refl _)) (.refl _)) (LeH.refl _)))
  rintro ⟨i, acc⟩ ⟨hi, hacc, ha⟩ K hK
  simp only at hi hacc ha
  simp only [go_sem]
  refine condD_dec (fun hc => ?_) (fun hc => ?_)
  · obtain ⟨m, hm⟩ : ∃ m, n - i = m + 1 := ⟨n - i - 1, by omega⟩
    rw [hm, Sp.fet] at ha
    have e1 : iw .i64 ((i : Int) + 1) = ((i + 1 : Nat) : Int) := by rw [iw64] <;> omega
    generalize hx : iw .i64 (pos + i) = x at ha
    simp only [go_sem,hx]
    refine rK_use (Go.AM.enters_of Tryz.func116 rfl (by decide)) (ACalls.pure_use (has_c s x) rfl rfl) ?_
    cases hh : s.has x
    · simp only [go_sem]
      exact fin acc _ (by rw [ha, if_neg (fun h => by rw [hh] at h; cases h.1)]; simp) rfl
    · obtain ⟨p, k1, k2, k3, k4, k5⟩ := Sp.pm_at hs hh
      obtain ⟨b, b1, b2, b3⟩ := Sp.byt_at hh
      have h6 := hs.p32
      have e2 : iw .i64 (x.tdiv 64) = x.tdiv 64 := iw64 (by omega) (by omega)
      simp only [go_sem,List.length_map,List.getElem?_map,k1,k4,k5,e2]
      refine condD_dec (fun hd => ?_) (fun hd => ?_)
      · simp only [go_sem]
        exact fin acc _ (by rw [ha, if_neg (fun h => hd (k2 ▸ h.2))]; simp) rfl
      · have hd' : p = 4 := Decidable.of_not_not hd
        have e4 : (acc.map rb).take acc.length = acc.map rb := List.take_of_length_le (by simp)
        have e5 : acc.length + 1 ≤ 68719476736 := by omega
        simp only [go_sem,List.length_map,List.getElem?_map,b1,b2,b3,e1,e4,e5]
        exact hK (i + 1, acc ++ [b]) _ _ ⟨by dsimp only; omega, by simp; omega, by rw [ha, if_pos ⟨hh, by rw [k2, hd']⟩, b1]; dsimp only; rw [show n - (i + 1) = m by omega]; simp⟩ (by dsimp only; omega)
          (Wk.push (A := [.rows 2 [[.view false 1 (s.perm.map r1), .view false 1 (s.byt.map rb)]]]) (b := .rows 1 ((acc ++ [b]).map rb)) 3 rfl (by simp) (by simp) (by simp [Blk.lt, ltL, AV.lt]) (blt0 (rb_lt0 _)) (by simp) (by simp [wkP, Ch.get, AV.ren, pu_lt, pu_eq]))
  · simp only [go_sem]
    have hin : i = n := by omega
    subst hin
    rw [Nat.sub_self, Sp.fet, List.append_nil] at ha
    exact fin acc _ ha.symm rfl
end Go.Proofs.YtigmnlnomhjecaaGreatDoor
set_option maxRecDepth 100000
set_option linter.unusedVariables false
set_option linter.unusedSimpArgs false
namespace Go.Proofs.YtigmnlnomhjecaaGreatDoor
open Go.AM
def Sp.sub (s : Sp) (pos : Int) (n : Nat) : List UInt8 := (s.byt.drop pos.toNat).take n
end Go.Proofs.YtigmnlnomhjecaaGreatDoor
set_option maxRecDepth 100000
set_option linter.unusedVariables false
set_option linter.unusedSimpArgs false
namespace Go.Proofs.YtigmnlnomhjecaaGreatDoor
open Go.AM
theorem toList_loop (bs : ByteArray) : ∀ (n i : Nat) (r : List UInt8), n = bs.size - i → ByteArray.toList.loop bs i r = r.reverse ++ bs.data.toList.drop i
  | 0, i, r, h => by
    rw [ByteArray.toList.loop, if_neg (by omega), List.drop_eq_nil_of_le (by rw [Array.length_toList]; exact (by omega : bs.size ≤ i)), List.append_nil]
  | n + 1, i, r, h => by
    have hlt : i < bs.size := by omega
    have hlt' : i < bs.data.toList.length := by rw [Array.length_toList]; exact hlt
    rw [ByteArray.toList.loop, if_pos hlt, toList_loop bs n (i + 1) _ (by omega), List.drop_eq_getElem_cons hlt']
    have : bs.get! i = bs.data.toList[i] := by
      have h2 : i < bs.data.size := hlt
      simp [ByteArray.get!, getElem!_pos bs.data i h2]
    rw [this]
    simp
theorem toList_eq (bs : ByteArray) : bs.toList = bs.data.toList := by
  rw [ByteArray.toList, toList_loop bs _ 0 [] rfl]; simp
def ktab : List (List UInt8 × Int) := [([], 0), ([110, 111, 112], 0), ([109, 111, 118, 101], 1), ([115, 101, 116], 3), ([108, 105, 116], 4), ([97, 100, 100], 1), ([115, 117, 98], 1), ([109, 117, 108], 1), ([100, 105, 118], 1), ([109, 111, 100], 1), ([97, 110, 100], 1), ([111, 114], 1), ([120, 111, 114], 1), ([115, 104, 108], 1), ([115, 104, 114], 1), ([115, 97, 114], 1), ([105, 110, 99], 4), ([108, 111, 97, 100, 49], 5), ([108, 111, 97, 100, 56], 5), ([115, 116, 111, 114, 101, 49], 5), ([115, 116, 111, 114, 101, 56], 5), ([98, 101, 113], 5), ([98, 110, 101], 5), ([98, 108, 116], 5), ([98, 103, 101], 5), ([106, 117, 109, 112], 6), ([106, 117, 109, 112, 114], 2), ([99, 97, 108, 108], 6), ([99, 97, 108, 108, 114], 2), ([114, 101, 116], 0), ([112, 117, 115, 104], 2), ([112, 111, 112], 2), ([108, 101, 97], 7), ([115, 121, 115], 8), ([115, 119, 97, 112], 1)]
def kcells : List AV := ktab.flatMap fun k => [.str ⟨k.1.toArray⟩, iv k.2]
theorem gAV0 : gAV 4 = .cptr kcells 0 := rfl
theorem kcells_len : kcells.length = 70 := rfl
def kfm (op : Int) : Int := if op = 76 then 0 else ((ktab[op.toNat]?).getD ([], 0)).2
def isOp (op : Int) : Bool := decide (op = 76) || (decide (1 ≤ op) && decide (op < 35))
def kname (op : Int) : ByteArray := if op = 76 then ⟨#[98, 114, 101, 97, 107]⟩ else if 1 ≤ op ∧ op < 35 then ⟨((ktab[op.toNat]?).getD ([], 0)).1.toArray⟩ else ⟨#[]⟩
def kform (op : Int) : Int := if isOp op = true then kfm op else 0
theorem krow : ∀ i, i < 35 → (kcells.drop (i * 2)).take 2 = [.str ⟨((ktab[i]?).getD ([], 0)).1.toArray⟩, iv ((ktab[i]?).getD ([], 0)).2]
  | 0, _ => rfl
  | 1, _ => rfl
  | 2, _ => rfl
  | 3, _ => rfl
  | 4, _ => rfl
  | 5, _ => rfl
  | 6, _ => rfl
  | 7, _ => rfl
  | 8, _ => rfl
  | 9, _ => rfl
  | 10, _ => rfl
  | 11, _ => rfl
  | 12, _ => rfl
  | 13, _ => rfl
  | 14, _ => rfl
  | 15, _ => rfl
  | 16, _ => rfl
  | 17, _ => rfl
  | 18, _ => rfl
  | 19, _ => rfl
  | 20, _ => rfl
  | 21, _ => rfl
  | 22, _ => rfl
  | 23, _ => rfl
  | 24, _ => rfl
  | 25, _ => rfl
  | 26, _ => rfl
  | 27, _ => rfl
  | 28, _ => rfl
  | 29, _ => rfl
  | 30, _ => rfl
  | 31, _ => rfl
  | 32, _ => rfl
  | 33, _ => rfl
  | 34, _ => rfl
  | n + 35, h => absurd h (by omega)
theorem ktab_ne : ∀ i, 0 < i → i < 35 → ((ktab[i]?).getD ([], 0)).1 ≠ [] := by
  have : ∀ i, i < 35 → 0 < i → ((ktab[i]?).getD ([], 0)).1 ≠ [] := by decide
  exact fun i h1 h2 => this i h2 h1
theorem kname_eq (op : Int) : ((kname op).toList == (⟨#[]⟩ : ByteArray).toList) = !isOp op := by
  rw [toList_eq, toList_eq]
  unfold kname isOp
  by_cases h1 : op = 76
  · subst h1; rfl
  · rw [if_neg h1]
    by_cases h2 : 1 ≤ op ∧ op < 35
    · rw [if_pos h2]
      have := ktab_ne op.toNat (by omega) (by omega)
      simp [h1, h2]
      exact this
    · rw [if_neg h2]
      simp [h1]
      omega
theorem kind_c (op : Int) : ACalls Tryz.prog 117 [iv op] [] (fun o H => o = .ret (.agg [.str (kname op), iv (kform op)]) ∧ H = []) := by
  refine ACalls.up ?_
  refine ACalls.intro (cs := []) (n := 16) Tryz.func117 rfl rfl rfl (by kernel_rfl) rfl ?_
  generalize hpost : (fun (o : Out) (H : Heap) => o = Out.ret (.agg [.str (kname op), iv (kform op)]) ∧ H = []) = post
  have fin : ∀ (s : ByteArray) n H, s = kname op → n = kform op → Up 0 post (.ret (.agg [.str s, iv n])) H := fun s n H e1 e2 => finv rfl (by rw [← hpost, e1, e2]; exact ⟨rfl, rfl⟩) H
  simp only [go_sem]
  repeat' (first | (refine gD_dec (fun hg => ?_) (fun hg => ?_) <;> simp only [go_sem,hg]) | (refine condD_dec (fun hg => ?_) (fun hg => ?_) <;> simp only [go_sem,hg]))
  · exact fin _ _ _ (by rw [kname, if_pos hg]) (by rw [kform, kfm, if_pos hg]; simp)
  · rename_i h1
    exact fin _ _ _ (by rw [kname, if_neg h1, if_neg (by omega)]) (by rw [kform, if_neg (by simp [isOp]; omega)])
  · rename_i h2 h1
    exact fin _ _ _ (by rw [kname, if_neg h2, if_neg (by omega)]) (by rw [kform, if_neg (by simp [isOp]; omega)])
  · rename_i h2 h1
    obtain ⟨k, rfl⟩ : ∃ k : Nat, op = k := ⟨op.toNat, by omega⟩
    have h3 : (0 : Int) ≤ k ∧ (k : Int) < 35 := by omega
    have h4 : k * 2 + 2 ≤ kcells.length := by rw [kcells_len]; omega
    simp only [go_sem,gAV0,h3,h4,krow k (by omega)]
    exact fin _ _ _ (by rw [kname, if_neg h2, if_pos (by omega)]; rfl) (by rw [kform, if_pos (by simp [isOp]; omega), kfm, if_neg h2]; rfl)
def hasA (f : Int) : Bool := (decide (1 ≤ f) && decide (f ≤ 5)) || decide (f = 7)
def hasB (f : Int) : Bool := decide (f = 1) || decide (f = 5)
def bytesOf (f : Int) : Nat := if f = 3 then 10 else if f = 4 ∨ f = 5 ∨ f = 8 then 1 else if f = 6 ∨ f = 7 then 2 else 0
def fits (f n : Int) : Bool := if f = 3 then true else if f = 8 then decide (0 ≤ n) && decide (n ≤ 127) else if bytesOf f = 0 then decide (n = 0) else if bytesOf f = 1 then decide (-64 ≤ n) && decide (n < 64) else decide (-8192 ≤ n) && decide (n < 8192)
theorem hasA_c (f : Int) : ACalls Tryz.prog 119 [iv f] [] (fun o H => o = .ret (.bool (hasA f)) ∧ H = []) := by
  refine ACalls.up ?_
  refine ACalls.intro (cs := []) (n := 13) Tryz.func119 rfl rfl rfl (by kernel_rfl) rfl ?_
  generalize hpost : (fun (o : Out) (H : Heap) => o = Out.ret (.bool (hasA f)) ∧ H = []) = post
  have fin : ∀ b H, b = hasA f → Up 0 post (.ret (.bool b)) H := fun n H e => finv rfl (by rw [← hpost, e]; exact ⟨rfl, rfl⟩) H
  simp only [go_sem]
  repeat' (first | (refine gD_dec (fun hg => ?_) (fun hg => ?_) <;> simp only [go_sem,hg]) | (refine condD_dec (fun hg => ?_) (fun hg => ?_) <;> simp only [go_sem,hg]))
  all_goals exact fin _ _ (by simp [hasA, *])
theorem hasB_c (f : Int) : ACalls Tryz.prog 120 [iv f] [] (fun o H => o = .ret (.bool (hasB f)) ∧ H = []) := by
  refine ACalls.up ?_
  refine ACalls.intro (cs := []) (n := 9) Tryz.func120 rfl rfl rfl (by kernel_rfl) rfl ?_
  generalize hpost : (fun (o : Out) (H : Heap) => o = Out.ret (.bool (hasB f)) ∧ H = []) = post
  have fin : ∀ b H, b = hasB f → Up 0 post (.ret (.bool b)) H := fun n H e => finv rfl (by rw [← hpost, e]; exact ⟨rfl, rfl⟩) H
  simp only [go_sem]
  repeat' (first | (refine gD_dec (fun hg => ?_) (fun hg => ?_) <;> simp only [go_sem,hg]) | (refine condD_dec (fun hg => ?_) (fun hg => ?_) <;> simp only [go_sem,hg]))
  all_goals exact fin _ _ (by simp [hasB, *])
theorem bytesOf_c (f : Int) : ACalls Tryz.prog 131 [iv f] [] (fun o H => o = .ret (iv (bytesOf f)) ∧ H = []) := by
  refine ACalls.up ?_
  refine ACalls.intro (cs := []) (n := 13) Tryz.func131 rfl rfl rfl (by kernel_rfl) rfl ?_
  generalize hpost : (fun (o : Out) (H : Heap) => o = Out.ret (iv (bytesOf f)) ∧ H = []) = post
  have fin : ∀ n H, n = (bytesOf f : Int) → Up 0 post (.ret (iv n)) H := fun n H e => finv rfl (by rw [← hpost, e]; exact ⟨rfl, rfl⟩) H
  simp only [go_sem]
  repeat' (first | (refine gD_dec (fun hg => ?_) (fun hg => ?_) <;> simp only [go_sem,hg]) | (refine condD_dec (fun hg => ?_) (fun hg => ?_) <;> simp only [go_sem,hg]))
  all_goals exact fin _ _ (by simp [bytesOf, *])
theorem bytesOf_le (f : Int) : bytesOf f ≤ 10 := by unfold bytesOf; split <;> (try split) <;> (try split) <;> omega
end Go.Proofs.YtigmnlnomhjecaaGreatDoor
set_option maxRecDepth 100000
set_option linter.unusedVariables false
set_option linter.unusedSimpArgs false
namespace Go.Proofs.YtigmnlnomhjecaaGreatDoor
open Go.AM
structure Ins where
  op : Int
  a : Int
  b : Int
  imm : Int
def Ins.cells (x : Ins) : List AV := [iv x.op, iv x.a, iv x.b, iv x.imm]
def Ins.av (x : Ins) : AV := .agg x.cells
structure Ins.ok (x : Ins) : Prop where
  op : isOp x.op = true
  a0 : 0 ≤ x.a
  a7 : x.a ≤ 7
  b0 : 0 ≤ x.b
  b7 : x.b ≤ 7
  ha : hasA (kform x.op) = true ∨ x.a = 0
  hb : hasB (kform x.op) = true ∨ x.b = 0
  im : fits (kform x.op) x.imm = true
instance (x : Ins) : Decidable x.ok := decidable_of_iff (isOp x.op = true ∧ 0 ≤ x.a ∧ x.a ≤ 7 ∧ 0 ≤ x.b ∧ x.b ≤ 7 ∧ (hasA (kform x.op) = true ∨ x.a = 0) ∧ (hasB (kform x.op) = true ∨ x.b = 0) ∧ fits (kform x.op) x.imm = true)
  ⟨fun h => ⟨h.1, h.2.1, h.2.2.1, h.2.2.2.1, h.2.2.2.2.1, h.2.2.2.2.2.1, h.2.2.2.2.2.2.1, h.2.2.2.2.2.2.2⟩, fun h => ⟨h.1, h.2, h.3, h.4, h.5, h.6, h.7, h.8⟩⟩
def Ins.chk (x : Ins) : Int := if x.ok then 0 else 20
def flen (f : Int) : Nat := 1 + bytesOf f + (if hasA f = true then 1 else 0)
theorem flen_le (f : Int) : flen f ≤ 12 := by have := bytesOf_le f; unfold flen; split <;> omega
theorem flength_c (f : Int) : ACalls Tryz.prog 118 [iv f] [] (fun o H => o = .ret (iv (flen f)) ∧ H = []) := by
  refine ACalls.up ?_
  refine ACalls.intro (cs := []) (n := 12) Tryz.func118 rfl rfl rfl (by kernel_rfl) rfl ?_
  generalize hpost : (fun (o : Out) (H : Heap) => o = Out.ret (iv (flen f)) ∧ H = []) = post
  have fin : ∀ n H, n = (flen f : Int) → Up 0 post (.ret (iv n)) H := fun n H e => finv rfl (by rw [← hpost, e]; exact ⟨rfl, rfl⟩) H
  have hb := bytesOf_le f
  have e1 : iw .i64 (1 + (bytesOf f : Int)) = 1 + (bytesOf f : Int) := iw64 (by omega) (by omega)
  have e2 : iw .i64 (1 + (bytesOf f : Int) + 1) = 1 + (bytesOf f : Int) + 1 := iw64 (by omega) (by omega)
  simp only [go_sem]
  repeat' (first | (refine gD_dec (fun hg => ?_) (fun hg => ?_) <;> simp only [go_sem,hg,e1,e2]) | (refine condD_dec (fun hg => ?_) (fun hg => ?_) <;> simp only [go_sem,hg,e1,e2]) | (refine rK_use (Go.AM.enters_of Tryz.func119 rfl (by decide)) (ACalls.pure_use (hasA_c _) rfl rfl) ?_; simp only [go_sem,e1,e2]) | (refine rK_use (Go.AM.enters_of Tryz.func131 rfl (by decide)) (ACalls.pure_use (bytesOf_c _) rfl rfl) ?_; simp only [go_sem,e1,e2]) | (refine gD_bool (fun hg => ?_) (fun hg => ?_) <;> simp only [go_sem,hg,e1,e2]) | (refine condD_bool (fun hg => ?_) (fun hg => ?_) <;> simp only [go_sem,hg,e1,e2]))
  all_goals exact fin _ _ (by simp [flen, *])
def Ins.len (x : Ins) : Nat := flen (kform x.op)
def isBr (op : Int) : Bool := (decide (21 ≤ op) && decide (op ≤ 25)) || decide (op = 27) || decide (op = 32)
def Ins.rel (x : Ins) : Bool := decide x.ok && (isBr x.op || decide (x.op = 28))
end Go.Proofs.YtigmnlnomhjecaaGreatDoor
set_option maxRecDepth 100000
set_option linter.unusedVariables false
set_option linter.unusedSimpArgs false
namespace Go.Proofs.YtigmnlnomhjecaaGreatDoor
open Go.AM
def immL (b : List UInt8) (v : Int) : Int := b.foldr (fun c v => bOr .i64 (iw .i64 (v * 128)) (c.toNat : Int)) v
def topB (b : List UInt8) : Int := ((b[b.length - 1]?).getD 0).toNat
def imm0 (f : Int) (b : List UInt8) : Int := if f ≠ 8 ∧ 0 < b.length ∧ 64 ≤ topB b then -1 else 0
theorem immL_at {b : List UInt8} {k : Nat} {c : UInt8} (h : b[k]? = some c) (v : Int) : immL (b.drop k) v = bOr .i64 (iw .i64 (immL (b.drop (k + 1)) v * 128)) (c.toNat : Int) := by
  rw [drop_at h]; rfl
theorem iwb (c : UInt8) : iw .i64 (c.toNat : Int) = c.toNat := by have := u8_lt c; exact iw64 (by omega) (by omega)
theorem immOf_c (f : Int) (b : List UInt8) (full : Bool) (hl : b.length ≤ 1000) : ACalls Tryz.prog 121 [iv f, .view full 1 (b.map rb)] [] (fun o H => o = .ret (iv (immL b (imm0 f b))) ∧ H = []) := by
  refine ACalls.up ?_
  refine ACalls.intro (cs := [4]) (n := 39) Tryz.func121 rfl rfl rfl (by kernel_rfl) rfl ?_
  generalize hpost : (fun (o : Out) (H : Heap) => o = Out.ret (iv (immL b (imm0 f b))) ∧ H = []) = post
  simp only [go_sem]
  refine seq_cut (fun _ : Unit => ((Ch.nil.put 1 (.view full 1 (b.map rb))).put 5 (iv (imm0 f b)))) (fun _ => []) (fun _ => True) (by kernel_rfl) ?_ ?_
  · intro K hK
    have e0 : iw .i64 ((b.length : Int) - 1) = (b.length : Int) - 1 := iw64 (by omega) (by omega)
    have fin : ∀ s' H', H' = [] → wkS ((Ch.nil.put 1 (.view full 1 (b.map rb))).put 5 (iv (imm0 f b))) s' → K s' H' := fun s' H' e h => hK () s' H' trivial (by subst e; exact Wk.slots' rfl h)
    simp only [go_sem,List.length_map,e0]
    rcases Decidable.em (f = 8) with h8 | h8
    · simp only [go_sem,h8]
      exact fin _ _ rfl (by simp [wkS, Ch.get, imm0, h8])
    · simp only [go_sem,h8,List.length_map,e0]
      rcases Decidable.em ((0 : Int) < b.length) with h0 | h0
      · obtain ⟨c, hc⟩ := at_lt (l := b) (i := b.length - 1) (by omega)
        have h1 : (0 : Int) ≤ (b.length : Int) - 1 := by omega
        have h2 : (b.length : Int) - 1 < b.length := by omega
        have h3 : ((b.length : Int) - 1).toNat = b.length - 1 := by omega
        simp only [go_sem,h0,h1,h2,h3,List.length_map,List.getElem?_map,hc,e0]
        repeat' (first | (refine gD_dec (fun hg => ?_) (fun hg => ?_) <;> simp only [go_sem,hg]) | (refine condD_dec (fun hg => ?_) (fun hg => ?_) <;> simp only [go_sem,hg]))
        · exact fin _ _ rfl (by simp [wkS, Ch.get, imm0, topB, hc]; omega)
        · exact fin _ _ rfl (by simp [wkS, Ch.get, imm0, topB, hc]; omega)
      · simp only [go_sem,h0,List.length_map]
        exact fin _ _ rfl (by simp [wkS, Ch.get, imm0]; omega)
  · rintro - -
    have e0 : iw .i64 ((b.length : Int) - 1) = (b.length : Int) - 1 := iw64 (by omega) (by omega)
    simp only [go_sem,List.length_map,e0]
    refine loop_fam (fun k : Nat => (((Ch.nil.put 1 (.view full 1 (b.map rb))).put 5 (iv (immL (b.drop k) (imm0 f b)))).put 6 (iv ((k : Int) - 1)))) (fun _ => []) (fun k => k) (fun k => k ≤ b.length) b.length (by kernel_rfl) (Nat.le_refl _)
      (Wk.slots' rfl (by simp [wkS, Ch.get, immL])) ?_
    rintro k hk K hK
    simp only [go_sem]
    refine condD_dec (fun hc => ?_) (fun hc => ?_)
    · obtain ⟨m, rfl⟩ : ∃ m, k = m + 1 := ⟨k - 1, by omega⟩
      obtain ⟨c, hc'⟩ := at_lt (l := b) (i := m) (by omega)
      have e1 : (((m + 1 : Nat) : Int) - 1) = (m : Int) := by omega
      have e2 : (m : Int) < b.length := by omega
      have e3 : iw .i64 ((m : Int) - 1) = (m : Int) - 1 := iw64 (by omega) (by omega)
      rw [e1]
      simp only [go_sem,e2,e3,List.length_map,List.getElem?_map,hc',Int.natCast_nonneg,iwb]
      refine hK m _ _ (by omega) (by omega) (Wk.slots' rfl ?_)
      simp [wkS, Ch.get]
      rw [immL_at hc']
    · have : k = 0 := by omega
      subst this
      simp only [go_sem]
      exact finv rfl (by rw [← hpost]; exact ⟨rfl, rfl⟩) _
end Go.Proofs.YtigmnlnomhjecaaGreatDoor
set_option maxRecDepth 100000
set_option linter.unusedVariables false
set_option linter.unusedSimpArgs false
namespace Go.Proofs.YtigmnlnomhjecaaGreatDoor
open Go.AM
def scan (wide : Bool) (b : List UInt8) (n : Nat) : Nat → Nat → Int
  | 0, _ => 0
  | m + 1, i => match b[i]? with
    | none => 21
    | some c => if 128 ≤ (c.toNat : Int) ∨ (wide = true ∧ i + 1 = n ∧ (c.toNat : Int) ≠ 0 ∧ (c.toNat : Int) ≠ 127) then 20 else scan wide b n m (i + 1)
structure Dec where
  x : Ins
  n : Nat
  e : Int
def Dec.err (e : Int) : Dec := ⟨⟨0, 0, 0, 0⟩, 0, e⟩
def Dec.av (d : Dec) : AV := .tuple [d.x.av, iv d.n, iv d.e]
def decB (b : List UInt8) (op a b' : Int) (k : Nat) : Dec :=
  if scan (decide (kform op = 3)) b (flen (kform op)) (flen (kform op) - k) k = 0 then
    ⟨⟨op, a, b', immL ((b.take (flen (kform op))).drop k) (imm0 (kform op) ((b.take (flen (kform op))).drop k))⟩, flen (kform op), 0⟩
  else .err (scan (decide (kform op = 3)) b (flen (kform op)) (flen (kform op) - k) k)
def dec (b : List UInt8) : Dec := match b with
  | [] => .err 21
  | b0 :: rest =>
    if isOp ((b0.toNat : Int) - 128) = true then
      if hasA (kform ((b0.toNat : Int) - 128)) = true then
        match rest with
        | [] => .err 21
        | b1 :: _ =>
          if hasB (kform ((b0.toNat : Int) - 128)) = true then
            if 64 ≤ (b1.toNat : Int) then .err 20 else decB b ((b0.toNat : Int) - 128) ((b1.toNat : Int).tdiv 8) ((b1.toNat : Int).tmod 8) 2
          else if 8 ≤ (b1.toNat : Int) then .err 20 else decB b ((b0.toNat : Int) - 128) b1.toNat 0 2
      else decB b ((b0.toNat : Int) - 128) 0 0 1
    else .err 20
theorem dec_cons (b0 : UInt8) (rest : List UInt8) : dec (b0 :: rest) = if isOp ((b0.toNat : Int) - 128) = true then
      if hasA (kform ((b0.toNat : Int) - 128)) = true then
        match rest with
        | [] => .err 21
        | b1 :: _ =>
          if hasB (kform ((b0.toNat : Int) - 128)) = true then
            if 64 ≤ (b1.toNat : Int) then .err 20 else decB (b0 :: rest) ((b0.toNat : Int) - 128) ((b1.toNat : Int).tdiv 8) ((b1.toNat : Int).tmod 8) 2
          else if 8 ≤ (b1.toNat : Int) then .err 20 else decB (b0 :: rest) ((b0.toNat : Int) - 128) b1.toNat 0 2
      else decB (b0 :: rest) ((b0.toNat : Int) - 128) 0 0 1
    else .err 20 := rfl
theorem flen_A {f : Int} (h : hasA f = true) : 2 ≤ flen f := by unfold flen; rw [if_pos h]; omega
theorem i2 : iw .i64 2 = 2 := by decide
theorem decode_c (b : List UInt8) (hl : b.length ≤ 1000) : ACalls Tryz.prog 97 [.view false 1 (b.map rb)] [] (fun o H => o = .ret (dec b).av ∧ H = []) := by
  refine ACalls.up ?_
  refine ACalls.intro (cs := [21]) (n := 120) Tryz.func97 rfl rfl rfl (by kernel_rfl) rfl ?_
  generalize hpost : (fun (o : Out) (H : Heap) => o = Out.ret (dec b).av ∧ H = []) = post
  have fin : ∀ (x : Ins) (n e : Int) H, .tuple [.agg [iv x.op, iv x.a, iv x.b, iv x.imm], iv n, iv e] = (dec b).av → Up 0 post (.ret (.tuple [.agg [iv x.op, iv x.a, iv x.b, iv x.imm], iv n, iv e])) H := fun x n e H h => finv rfl (by rw [← hpost, h]; exact ⟨rfl, rfl⟩) H
  rcases b with _ | ⟨b0, rest⟩
  · simp only [go_sem]
    exact fin ⟨0, 0, 0, 0⟩ 0 21 _ rfl
  have q1 : ¬ (((b0 :: rest).length : Nat) : Int) = 0 := by rw [List.length_cons]; omega
  have q2 : (0 : Int) < ((b0 :: rest).length : Nat) := by rw [List.length_cons]; omega
  have q3 := u8_lt b0
  have e1 : iw .i64 ((b0.toNat : Int) - 128) = (b0.toNat : Int) - 128 := iw64 (by omega) (by omega)
  generalize hb : b0 :: rest = b at *
  have hb0 : b[0]? = some b0 := by rw [← hb]; rfl
  simp only [go_sem,List.length_map,q1,q2,List.getElem?_map,hb0,iwb,e1,Int.le_refl]
  refine rK_use (Go.AM.enters_of Tryz.func117 rfl (by decide)) (ACalls.pure_use (kind_c _) rfl rfl) ?_
  generalize hop : (b0.toNat : Int) - 128 = op
  simp only [go_sem,kname_eq]
  rcases Decidable.em (isOp op = true) with ho | ho
  rotate_left
  · simp only [go_sem,ho]
    exact fin ⟨0, 0, 0, 0⟩ 0 20 _ (by rw [← hb, dec_cons, hop, if_neg ho]; rfl)
  simp only [go_sem,ho]
  refine rK_use (Go.AM.enters_of Tryz.func118 rfl (by decide)) (ACalls.pure_use (flength_c _) rfl rfl) ?_
  simp only [go_sem]
  have hfl := flen_le (kform op)
  have hf1 : 1 ≤ flen (kform op) := by unfold flen; omega
  refine seq_cut (fun z : Int × Int × Nat => (((((Ch.nil.put 0 (.view false 1 (b.map rb))).put 2 (.ptr 0 0 0)).put 5 (.ptr 1 0 0)).put 6 (.ptr 2 0 0)).put 7 (iv (flen (kform op)))).put 8 (iv z.2.2))
    (fun z => [.rows 4 [[iv 0, iv 0, iv 0, iv 0]], .rows 4 [[iv op, iv z.1, iv z.2.1, iv 0]], .rows 2 [[.str (kname op), iv (kform op)]]])
    (fun z => dec b = decB b op z.1 z.2.1 z.2.2 ∧ z.2.2 ≤ b.length ∧ z.2.2 ≤ flen (kform op) ∧ 1 ≤ z.2.2) (by kernel_rfl) ?_ ?_
  · intro K hK
    simp only [go_sem]
    refine rK_use (Go.AM.enters_of Tryz.func119 rfl (by decide)) (ACalls.pure_use (hasA_c _) rfl rfl) ?_
    rcases Decidable.em (hasA (kform op) = true) with hA | hA
    rotate_left
    · simp only [go_sem,hA]
      refine hK (0, 0, 1) _ _ ⟨by rw [← hb, dec_cons, hop, if_pos ho, if_neg hA], by rw [← hb]; simp, hf1, Nat.le_refl _⟩ (Wk.slots' rfl (by simp [wkS, Ch.get]))
    have hf2 := flen_A hA
    simp only [go_sem,hA,List.length_map]
    rcases rest with _ | ⟨b1, rest⟩
    · have q4 : b.length = 1 := by rw [← hb]; rfl
      simp only [go_sem,q4,Int.natCast_one]
      exact fin ⟨0, 0, 0, 0⟩ 0 21 _ (by rw [← hb, dec_cons, hop, if_pos ho, if_pos hA]; rfl)
    have q4 : ¬ (b.length : Int) = 1 := by rw [← hb]; simp; omega
    have q5 : (1 : Int) < b.length := by rw [← hb]; simp; omega
    have hb1 : b[1]? = some b1 := by rw [← hb]; rfl
    have q6 := u8_lt b1
    simp only [go_sem,q4]
    refine rK_use (Go.AM.enters_of Tryz.func120 rfl (by decide)) (ACalls.pure_use (hasB_c _) rfl rfl) ?_
    rcases Decidable.em (hasB (kform op) = true) with hB | hB
    · simp only [go_sem,hB,List.length_map,q5,List.getElem?_map,hb1]
      rcases Decidable.em (64 ≤ (b1.toNat : Int)) with h64 | h64
      · simp only [go_sem,h64]
        exact fin ⟨0, 0, 0, 0⟩ 0 20 _ (by rw [← hb, dec_cons, hop, if_pos ho, if_pos hA]; simp only [hB, if_true, h64]; rfl)
      · simp only [go_sem,h64,List.length_map,q5,List.getElem?_map,hb1,iwb]
        refine rK_use (Go.AM.enters_of Tryz.func120 rfl (by decide)) (ACalls.pure_use (hasB_c _) rfl rfl) ?_
        have e2 : iw .i64 ((b1.toNat : Int).tdiv 8) = (b1.toNat : Int).tdiv 8 := by
          have := u8_ge b1
          rw [Int.tdiv_eq_ediv_of_nonneg this]
          exact iw64 (by omega) (by omega)
        simp only [go_sem,hB,e2]
        refine hK ((b1.toNat : Int).tdiv 8, (b1.toNat : Int).tmod 8, 2) _ _ ⟨by rw [← hb, dec_cons, hop, if_pos ho, if_pos hA]; simp only [hB, if_true, h64, if_false], by rw [← hb]; simp, hf2, by simp⟩ (Wk.slots' rfl (by simp [wkS, Ch.get, i2]))
    · simp only [go_sem,hB,List.length_map,q5,List.getElem?_map,hb1]
      rcases Decidable.em (8 ≤ (b1.toNat : Int)) with h64 | h64
      · simp only [go_sem,h64]
        exact fin ⟨0, 0, 0, 0⟩ 0 20 _ (by rw [← hb, dec_cons, hop, if_pos ho, if_pos hA]; simp only [hB, if_true, if_false, h64]; rfl)
      · simp only [go_sem,h64,List.length_map,q5,List.getElem?_map,hb1,iwb]
        refine rK_use (Go.AM.enters_of Tryz.func120 rfl (by decide)) (ACalls.pure_use (hasB_c _) rfl rfl) ?_
        simp only [go_sem,hB]
        refine hK ((b1.toNat : Int), 0, 2) _ _ ⟨by rw [← hb, dec_cons, hop, if_pos ho, if_pos hA]; simp only [hB, if_true, h64, if_false, Bool.false_eq_true], by rw [← hb]; simp, hf2, by simp⟩ (Wk.slots' rfl (by simp [wkS, Ch.get, i2]))
  · rintro ⟨a, b', k⟩ ⟨hd, hkl, hkf, hk1⟩
    simp only at hd hkl hkf hk1
    simp only [go_sem]
    generalize hw : decide (kform op = 3) = wide
    generalize hf0 : flen (kform op) = fl at *
    refine loop_fam (fun i : Nat => ((((((Ch.nil.put 0 (.view false 1 (b.map rb))).put 2 (.ptr 0 0 0)).put 5 (.ptr 1 0 0)).put 6 (.ptr 2 0 0)).put 7 (iv (fl))).put 8 (iv k)).put 10 (iv i))
      (fun i => [.rows 4 [[iv 0, iv 0, iv 0, iv 0]], .rows 4 [[iv op, iv a, iv b', iv 0]], .rows 2 [[.str (kname op), iv (kform op)]]])
      (fun i => fl - i) (fun i => k ≤ i ∧ i ≤ fl ∧ i ≤ b.length ∧ scan wide b (fl) (fl - k) k = scan wide b (fl) (fl - i) i) k (by kernel_rfl) ⟨Nat.le_refl _, hkf, hkl, rfl⟩
      (Wk.slots' rfl (by simp [wkS, Ch.get])) ?_
    rintro i ⟨h1, h2, h3, hs⟩ K hK
    simp only [go_sem,List.length_map]
    refine condD_dec (fun hc => ?_) (fun hc => ?_)
    · obtain ⟨m, hm⟩ : ∃ m, fl - i = m + 1 := ⟨fl - i - 1, by omega⟩
      rw [hm, scan] at hs
      simp only [go_sem,List.length_map]
      refine condD_dec (fun hx => ?_) (fun hx => ?_)
      · have hi : b[i]? = none := by rw [List.getElem?_eq_none_iff]; omega
        rw [hi] at hs
        simp only [go_sem]
        exact fin ⟨0, 0, 0, 0⟩ 0 21 _ (by rw [hd, decB, hw, hf0, hs]; rfl)
      · obtain ⟨c, hi⟩ := at_lt (l := b) (i := i) (by omega)
        have hlt : (i : Int) < b.length := by omega
        have e3 : iw .i64 ((fl : Int) - 1) = (fl : Int) - 1 := iw64 (by omega) (by omega)
        have e4 : iw .i64 ((i : Int) + 1) = ((i + 1 : Nat) : Int) := by rw [iw64] <;> omega
        have e8 : iw .i64 ((fl : Int) - 1 + 1) = fl := by rw [iw64] <;> omega
        have hcc := u8_lt c
        rw [hi] at hs
        simp only at hs
        have bad : ∀ H, (128 ≤ (c.toNat : Int) ∨ (wide = true ∧ i + 1 = fl ∧ (c.toNat : Int) ≠ 0 ∧ (c.toNat : Int) ≠ 127)) → Up 0 post (.ret (.tuple [.agg [iv 0, iv 0, iv 0, iv 0], iv 0, iv 20])) H := fun H h => fin ⟨0, 0, 0, 0⟩ 0 20 H (by rw [hd, decB, hw, hf0, hs, if_pos h]; rfl)
        have good : ∀ s' H', ¬ (128 ≤ (c.toNat : Int) ∨ (wide = true ∧ i + 1 = fl ∧ (c.toNat : Int) ≠ 0 ∧ (c.toNat : Int) ≠ 127)) → Wk 0 120 s' H' (((((((Ch.nil.put 0 (.view false 1 (b.map rb))).put 2 (.ptr 0 0 0)).put 5 (.ptr 1 0 0)).put 6 (.ptr 2 0 0)).put 7 (iv (fl))).put 8 (iv k)).put 10 (iv (i + 1 : Nat))) [.rows 4 [[iv 0, iv 0, iv 0, iv 0]], .rows 4 [[iv op, iv a, iv b', iv 0]], .rows 2 [[.str (kname op), iv (kform op)]]] → K s' H' := fun s' H' h hwk =>
          hK (i + 1) s' H' ⟨by omega, by omega, by omega, by rw [hs, if_neg h]; congr 1; omega⟩ (by omega) hwk
        rcases Decidable.em (i + 1 = fl) with hla | hla
        · have hla' : (fl : Int) - 1 = i := by omega
          rw [hla'] at e3
          simp only [go_sem,List.length_map,List.getElem?_map,hi,hlt,Int.natCast_nonneg,hla',e3]
          repeat' (first | (refine gD_dec (fun hg => ?_) (fun hg => ?_) <;> simp only [go_sem,hg,List.length_map,List.getElem?_map,hi,hlt,Int.natCast_nonneg,hla',e3,e4]) | (refine condD_dec (fun hg => ?_) (fun hg => ?_) <;> simp only [go_sem,hg,List.length_map,List.getElem?_map,hi,hlt,Int.natCast_nonneg,hla',e3,e4]) | (refine gD_bool (fun hg => ?_) (fun hg => ?_) <;> simp only [go_sem,hg,List.length_map,List.getElem?_map,hi,hlt,Int.natCast_nonneg,hla',e3,e4]) | (refine condD_bool (fun hg => ?_) (fun hg => ?_) <;> simp only [go_sem,hg,List.length_map,List.getElem?_map,hi,hlt,Int.natCast_nonneg,hla',e3,e4]))
          all_goals first
            | exact bad _ (.inl (by assumption))
            | exact bad _ (.inr ⟨by rw [← hw]; exact decide_eq_true (by assumption), hla, by omega, by omega⟩)
            | refine good _ _ (fun h => ?_) (Wk.slots' (by first | rfl | simp [*]) (by simp [wkS, Ch.get]))
              rcases h with h | ⟨g1, g2, g3, g4⟩
              · omega
              · have g5 : kform op = 3 := of_decide_eq_true (hw.trans g1)
                omega
        · have hla' : ¬ ((i : Int) = (fl : Int) - 1) := by omega
          simp only [go_sem,List.length_map,List.getElem?_map,hi,hlt,Int.natCast_nonneg,hla',e3]
          repeat' (first | (refine gD_dec (fun hg => ?_) (fun hg => ?_) <;> simp only [go_sem,hg,List.length_map,List.getElem?_map,hi,hlt,Int.natCast_nonneg,hla',e3,e4]) | (refine condD_dec (fun hg => ?_) (fun hg => ?_) <;> simp only [go_sem,hg,List.length_map,List.getElem?_map,hi,hlt,Int.natCast_nonneg,hla',e3,e4]) | (refine gD_bool (fun hg => ?_) (fun hg => ?_) <;> simp only [go_sem,hg,List.length_map,List.getElem?_map,hi,hlt,Int.natCast_nonneg,hla',e3,e4]) | (refine condD_bool (fun hg => ?_) (fun hg => ?_) <;> simp only [go_sem,hg,List.length_map,List.getElem?_map,hi,hlt,Int.natCast_nonneg,hla',e3,e4]))
          all_goals first
            | exact bad _ (.inl (by assumption))
            | refine good _ _ (fun h => ?_) (Wk.slots' (by first | rfl | simp [*]) (by simp [wkS, Ch.get]))
              rcases h with h | ⟨g1, g2, g3, g4⟩ <;> omega
    · have hin : i = fl := by omega
      subst hin
      rw [Nat.sub_self, scan] at hs
      have hkn : (k : Int) ≤ (i : Int) := by omega
      have hnl : (i : Int) ≤ b.length := by omega
      simp only [go_sem]
      refine draw [.qu 0 0, .qu 0 0, .qu 0 0, .qu 0 0, .qu 0 0, .qu 0 0, .qu 0 0, .qu 0 0, .mn 0] (by kernel_rfl) (by kernel_rfl) ?_
      have e5 : ((b.map rb).take (i)).drop k = ((b.take (i)).drop k).map rb := by rw [← List.map_take, ← List.map_drop]
      simp only [go_sem,hkn,hnl,Int.natCast_nonneg,List.length_map,e5]
      refine y_call (Go.AM.enters_of Tryz.func121 rfl (by decide)) (fun _ => ACalls.pure_use (immOf_c (kform op) ((b.take (i)).drop k) false (by simp; omega)) rfl rfl) ?_
      simp only [go_sem]
      exact fin ⟨op, a, b', _⟩ _ 0 _ (by rw [hd, decB, hw, hf0, hs, if_pos rfl]; rfl)
end Go.Proofs.YtigmnlnomhjecaaGreatDoor
set_option maxRecDepth 100000
set_option linter.unusedVariables false
set_option linter.unusedSimpArgs false
namespace Go.Proofs.YtigmnlnomhjecaaGreatDoor
open Go.AM
open Go.Glob (Bs EK El Dsc)
abbrev rs1 (b : Bs) : List AV := [Sv b]
theorem rs1_lt (l : List Bs) : ∀ row ∈ l.map rs1, ltL 0 row = true := rows_lt (fun _ => rfl) l
def dcs (d : Dsc) : List AV := [Sv d.p, Sv d.m, Sv d.f, Sv d.n]
def dv (d : Dsc) : AV := .agg (dcs d)
theorem elsV_eq (b : Bs) : ∃ xs, elsV b = .tuple [.view false 2 xs, .bool (Glob.prs b).isSome] ∧ (elsV b).lt 0 = true := by
  rw [Glob.prs_eq]
  unfold elsV
  cases Glob.prsK b with
  | none => exact ⟨[], rfl, rfl⟩
  | some l => exact ⟨l.map ekR, rfl, rfl⟩
theorem dvalid_c (d : Dsc) : ACalls Tryz.prog 33 [dv d] [] (fun o H => o = .ret (.bool d.ok) ∧ H = []) := by
  refine ACalls.up ?_
  refine ACalls.intro (cs := []) (n := 29) Tryz.func33 rfl rfl rfl (by kernel_rfl) rfl ?_
  generalize hpost : (fun (o : Out) (H : Heap) => o = Out.ret (.bool d.ok) ∧ H = []) = post
  have fin : ∀ b H, b = d.ok → Up 0 post (.ret (.bool b)) H := fun b H h => finv rfl (by rw [← hpost, ← h]; exact ⟨rfl, rfl⟩) H
  simp only [go_sem,dv,dcs]
  refine loop_fam (fun i : Nat => ((Ch.nil.put 15 (.sl 1 0 4 none)).put 16 (iv 4)).put 17 (iv i)) (fun _ => [.rows 4 [dcs d], .rows 1 (d.l.map rs1)]) (fun i => 4 - i) (fun i => i ≤ 4 ∧ (d.l.take i).all (fun s => (Glob.prs s).isSome) = true) 0 (by kernel_rfl) ⟨by omega, rfl⟩ ?_ ?_
  · exact (Wk.slots' (s' := ((Ch.nil.put 15 (.sl 1 0 4 (some 4))).put 16 (iv 4)).put 17 (iv 0)) rfl (by simp [wkS, Ch.get])).trans (Wk.le (.cons _ (.cons _ (.cons _ (LeC.refl _) (.cap _ _ _ _)) (.refl _)) (.refl _)) (LeH.refl _))
  rintro i ⟨hi, hall⟩ K hK
  have hl4 : d.l.length = 4 := rfl
  simp only [go_sem]
  refine condD_dec (fun hd => ?_) (fun hd => ?_)
  · have hi' : i < 4 := by omega
    obtain ⟨x, hx⟩ := at_lt (l := d.l) (i := i) (by omega)
    have g1 : (0 : Int) ≤ (i : Int) ∧ (i : Int) < 4 := by omega
    have e1 : iw .i64 ((i : Int) + 1) = ((i + 1 : Nat) : Int) := by rw [iw64] <;> omega
    obtain ⟨xs, ex, elt⟩ := elsV_eq x
    simp only [go_sem,g1,e1,List.length_map,List.getElem?_map,hx,hl4]
    refine rK_use (Go.AM.enters_of Tryz.func39 rfl (by decide)) (ACalls.pure_use (elements_c x) rfl elt) ?_
    rw [ex]
    simp only [go_sem]
    refine condD_bool (fun h1 => ?_) (fun h1 => ?_)
    · simp only [go_sem]
      refine fin _ _ ?_
      symm
      rw [Bool.eq_false_iff]
      intro hok
      have := List.all_eq_true.1 (show d.l.all (fun s => (Glob.prs s).isSome) = true from hok) x (List.mem_of_getElem? hx)
      rw [this] at h1
      cases h1
    · simp only [go_sem,e1]
      exact hK (i + 1) _ _ ⟨hi', all_step hx hall (by simpa using h1)⟩ (by omega) (Wk.slots' rfl (by simp [wkS, Ch.get]))
  · simp only [go_sem]
    obtain rfl : i = 4 := by omega
    exact fin _ _ (by rw [List.take_of_length_le (by rw [hl4]; exact Nat.le_refl _)] at hall; exact hall.symm)
theorem bapp (a b : Bs) : (ByteArray.mk a.toArray) ++ (ByteArray.mk b.toArray) = ⟨(a ++ b).toArray⟩ := by
  apply ByteArray.ext
  simp [ByteArray.data_append]
theorem suf_drop {b r : Bs} {c : UInt8} (h : c :: r <:+ b) : b.drop (b.length - (r.length + 1)) = c :: r := by
  obtain ⟨t, rfl⟩ := h
  simp
theorem set_last (acc : List Bs) (cur x : Bs) : ((acc ++ [cur]).map rs1).set acc.length (rs1 x) = (acc ++ [x]).map rs1 := by
  rw [← List.map_set]
  simp
theorem at_last (acc : List Bs) (cur : Bs) : (acc ++ [cur])[acc.length]? = some cur := by simp
theorem divided_c (s : Bs) (hs : s.length ≤ 1000000) : ACalls Tryz.prog 35 [Sv s] [] (fun o H => o = .ret (.view false 1 ((Glob.dvd s).map rs1)) ∧ H = []) := by
  refine ACalls.up ?_
  refine ACalls.intro (cs := []) (n := 61) Tryz.func35 rfl rfl rfl (by kernel_rfl) rfl ?_
  generalize hpost : (fun (o : Out) (H : Heap) => o = Out.ret (.view false 1 ((Glob.dvd s).map rs1)) ∧ H = []) = post
  simp only [go_sem]
  refine loop_fam (fun q : List Bs × Bs × Bs => ((Ch.nil.put 0 (Sv s)).put 3 (.sl 0 0 (q.1.length + 1) none)).put 4 (iv (s.length - q.2.2.length : Nat))) (fun q => [.rows 1 ((q.1 ++ [q.2.1]).map rs1)]) (fun q => q.2.2.length)
    (fun q => q.2.2 <:+ s ∧ Glob.dvd s = q.1 ++ Glob.onto q.2.1 (Glob.dvd q.2.2) ∧ q.1.length + q.2.2.length ≤ s.length ∧ q.2.1.length + q.2.2.length ≤ s.length) ([], [], s) (by kernel_rfl) ⟨List.suffix_refl _, (Glob.onto_nil (Glob.dvd_ne s)).symm, by simp, by simp⟩ ?_ ?_
  · refine (Wk.slots' (s' := ((Ch.nil.put 0 (Sv s)).put 3 (.sl 0 0 1 (some 1))).put 4 (iv 0)) rfl (by simp [wkS, Ch.get])).trans (Wk.le ?_ (LeH.refl _))
    rw [Nat.sub_self]
    exact .cons _ (.cons _ (LeC.refl _) (.cap _ _ _ _)) (.refl _)
  rintro ⟨acc, cur, r⟩ ⟨hr, hp, hl, hcl⟩ K hK
  simp only at hr hp hl hcl
  have hrl := hr.length_le
  simp only [go_sem,bsz]
  refine condD_dec (fun hd => ?_) (fun hd => ?_)
  · cases r with
    | nil => simp at hd
    | cons c r =>
      have ha := suf_at hr
      have hr2 := suf_tl hr
      simp only [List.length_cons] at hrl hl hcl
      have e3 : iw .i64 (((acc.length + 1 : Nat) : Int) - 1) = (acc.length : Int) := by rw [iw64] <;> omega
      have g1 : (0 : Int) ≤ (acc.length : Int) ∧ (acc.length : Int) < ((acc.length + 1 : Nat) : Int) := by omega
      have g2 : (0 : Int) ≤ ((s.length - (r.length + 1) : Nat) : Int) ∧ ((s.length - (r.length + 1) : Nat) : Int) < s.length := by omega
      have e4 : iw .i64 (((s.length - (r.length + 1) : Nat) : Int) + 1) = ((s.length - r.length : Nat) : Int) := by rw [iw64] <;> omega
      have g3 : acc.length ≤ 68719476734 := by omega
      have c58 : ((c.toNat : Int) = 58) ↔ c = 58 := u8_i c 58 (by decide)
      have c92 : ((c.toNat : Int) = 92) ↔ c = 92 := u8_i c 92 (by decide)
      have hdrop := suf_drop hr
      have hcur := at_last acc cur
      have hsl : (ByteArray.mk s.toArray).extract (s.length - (r.length + 1)) (s.length - r.length) = ⟨[c].toArray⟩ := by
        rw [bex, hdrop, show s.length - r.length - (s.length - (r.length + 1)) = 1 by omega]
        rfl
      have g5 : (0 : Int) ≤ ((s.length - (r.length + 1) : Nat) : Int) ∧ ((s.length - (r.length + 1) : Nat) : Int) ≤ ((s.length - r.length : Nat) : Int) ∧ ((s.length - r.length : Nat) : Int) ≤ s.length := by omega
      have one : Glob.dvd (c :: r) = Glob.onto [c] (Glob.dvd r) → ∀ s', wkS (((Ch.nil.put 0 (Sv s)).put 3 (.sl 0 0 (acc.length + 1) none)).put 4 (iv (s.length - r.length : Nat))) s' → K s' [.rows 1 ((acc ++ [cur ++ [c]]).map rs1)] := fun hdv s' hs' =>
        hK (acc, cur ++ [c], r) _ _ ⟨hr2, by rw [hp, hdv, Glob.onto_onto _ _ (Glob.dvd_ne r)], by simp; omega, by simp; omega⟩ (by simp) (Wk.slots' rfl hs')
      simp only [go_sem,e3,g1,List.length_map,List.length_append,bsz,bdt,g2,ha]
      refine condD_dec (fun h1 => ?_) (fun h1 => ?_)
      · simp only [go_sem,e4,List.length_map,List.length_append,g3]
        refine hK (acc ++ [cur], [], r) _ _ ⟨hr2, ?_, by simp; omega, by simp; omega⟩ (by simp) (Wk.push (A := []) (b := .rows 1 ((acc ++ [cur] ++ [[]]).map rs1)) 2 rfl ?_ (by simp) (by simp) (blt0 (rs1_lt _)) (by simp) (by simp [wkP, Ch.get, AV.ren, pu_lt, pu_eq]))
        · rw [hp, c58.1 h1, Glob.dvd_colon, Glob.onto_nil (Glob.dvd_ne r)]
          simp [Glob.onto]
        · rw [List.take_of_length_le (by simp)]
          simp
      have hn58 := mt c58.2 h1
      simp only [go_sem,bsz,bdt,List.size_toArray,g2,ha]
      refine gD_dec (fun h2 => ?_) (fun h2 => ?_)
      · have hc := c92.1 h2
        simp only [go_sem,eq_true h2,e4,List.size_toArray]
        refine condD_dec (fun h3 => ?_) (fun h3 => ?_)
        · cases r with
          | nil => simp at h3
          | cons d r =>
            have hr3 := suf_tl hr2
            simp only [List.length_cons] at hrl hl hcl h3
            have e5 : iw .i64 (((s.length - (r.length + 1 + 1) : Nat) : Int) + 2) = ((s.length - r.length : Nat) : Int) := by rw [iw64] <;> omega
            have e6 : iw .i64 (((s.length - (r.length + 1) : Nat) : Int) + 1) = ((s.length - r.length : Nat) : Int) := by rw [iw64] <;> omega
            have hs2 : (ByteArray.mk s.toArray).extract (s.length - (r.length + 1 + 1)) (s.length - r.length) = ⟨[c, d].toArray⟩ := by
              rw [bex, show s.length - (r.length + 1 + 1) = s.length - ((d :: r).length + 1) from rfl, hdrop, show s.length - r.length - (s.length - ((d :: r).length + 1)) = 2 by simp; omega]
              rfl
            have g6 : (0 : Int) ≤ ((s.length - (r.length + 1 + 1) : Nat) : Int) ∧ ((s.length - (r.length + 1 + 1) : Nat) : Int) ≤ ((s.length - r.length : Nat) : Int) ∧ ((s.length - r.length : Nat) : Int) ≤ s.length := by omega
            simp only [List.length_cons] at e4
            refine draw [.qu 0 0, .qu 0 0, .qu 0 0, .qu 0 0, .qu 0 0, .qu 0 0, .qu 0 0, .qu 0 0, .qu 0 0, .qu 0 0, .mn 0] (by kernel_rfl) (by kernel_rfl) ?_
            simp only [go_sem,List.length_cons,e4,e5,e6,List.size_toArray,List.length_map,List.length_append,List.getElem?_map,hcur,g6,hs2,bapp,set_last]
            refine ⟨by have : IntKind.i64.max = 9223372036854775807 := rfl; omega, ?_⟩
            refine hK (acc, cur ++ [c, d], r) _ _ ⟨hr3, ?_, by simp; omega, by simp; omega⟩ (by simp; omega) (Wk.slots' rfl (by simp [wkS, Ch.get]))
            rw [hp, hc, Glob.dvd_esc, Glob.onto_onto _ _ (Glob.dvd_ne r)]
        · have hr0 : r = [] := by
            cases r with
            | nil => rfl
            | cons d r => simp at h3 hrl; omega
          refine draw [.qu 0 0, .qu 0 0, .qu 0 0, .qu 0 0, .qu 0 0, .qu 0 0, .qu 0 0, .qu 0 0, .qu 0 0, .qu 0 0, .mn 0] (by kernel_rfl) (by kernel_rfl) ?_
          simp only [go_sem,e4,List.size_toArray,List.length_map,List.length_append,List.getElem?_map,hcur,g5,hsl,bapp,set_last]
          refine ⟨by have : IntKind.i64.max = 9223372036854775807 := rfl; omega, ?_⟩
          exact one (by rw [hc, hr0]; rfl) _ (by simp [wkS, Ch.get])
      · simp only [go_sem,h2]
        refine draw [.qu 0 0, .qu 0 0, .qu 0 0, .qu 0 0, .qu 0 0, .qu 0 0, .qu 0 0, .qu 0 0, .qu 0 0, .qu 0 0, .mn 0] (by kernel_rfl) (by kernel_rfl) ?_
        simp only [go_sem,e4,List.size_toArray,List.length_map,List.length_append,List.getElem?_map,hcur,g5,hsl,bapp,set_last]
        refine ⟨by have : IntKind.i64.max = 9223372036854775807 := rfl; omega, ?_⟩
        exact one (Glob.dvd_one (mt c92.2 h2) hn58 r) _ (by simp [wkS, Ch.get])
  · have : r = [] := by
      cases r with
      | nil => rfl
      | cons c r => simp at hd hrl; omega
    subst this
    simp only [go_sem]
    refine up_one 0 1 ((acc ++ [cur]).map rs1) rfl (rs1_lt _) (by simp [Out.fzOk, AV.fzOk, fzOkL]) (by simp [Out.fz, AV.fz, fzL, Out.lt, AV.lt, ltL]) ?_
    rw [← hpost, hp]
    refine ⟨?_, rfl⟩
    simp [Out.fz, AV.fz, fzL, Glob.dvd, Glob.onto]
    rw [List.take_of_length_le (by simp)]
end Go.Proofs.YtigmnlnomhjecaaGreatDoor
set_option maxRecDepth 100000
set_option linter.unusedVariables false
set_option linter.unusedSimpArgs false
namespace Go.Proofs.YtigmnlnomhjecaaGreatDoor
open Go.AM
open Go.Glob (Bs EK El Dsc)
theorem pdesc_big {s : Bs} (h : 200 < s.length) : Glob.pdesc s = (Glob.d0, 2) := by rw [Glob.pdesc, if_pos h]
theorem pdesc_many {s : Bs} (h : ¬ 200 < s.length) (h2 : 4 < (Glob.dvd s).length) : Glob.pdesc s = (Glob.d0, 100) := by rw [Glob.pdesc, if_neg h, if_pos h2]
theorem pdesc_few {s : Bs} (h : ¬ 200 < s.length) (h2 : ¬ 4 < (Glob.dvd s).length) : Glob.pdesc s = if (Glob.dsc (Glob.pad (Glob.dvd s))).ok = true then (Glob.dsc (Glob.pad (Glob.dvd s)), 0) else (Glob.d0, 100) := by rw [Glob.pdesc, if_neg h, if_neg h2]
theorem pdesc_c (s : Bs) : ACalls Tryz.prog 21 [Sv s] [] (fun o H => o = .ret (.tuple [dv (Glob.pdesc s).1, iv (Glob.pdesc s).2]) ∧ H = []) := by
  refine ACalls.up ?_
  refine ACalls.intro (cs := []) (n := 40) Tryz.func21 rfl rfl rfl (by kernel_rfl) rfl ?_
  generalize hpost : (fun (o : Out) (H : Heap) => o = Out.ret (.tuple [dv (Glob.pdesc s).1, iv (Glob.pdesc s).2]) ∧ H = []) = post
  have fin : ∀ d e, Glob.pdesc s = (d, e) → ∀ H, Up 0 post (.ret (.tuple [dv d, iv e])) H := fun d e h H => finv rfl (by rw [← hpost, h]; exact ⟨rfl, rfl⟩) H
  simp only [go_sem,List.size_toArray]
  refine condD_dec (fun h1 => ?_) (fun h1 => ?_)
  · simp only [go_sem]
    exact fin Glob.d0 2 (pdesc_big (by omega)) _
  have hs : ¬ 200 < s.length := by omega
  simp only [go_sem]
  refine rK_use (Go.AM.enters_of Tryz.func35 rfl (by decide)) (ACalls.pure_use (divided_c s (by omega)) rfl rfl) ?_
  simp only [go_sem,List.length_map]
  refine condD_dec (fun h2 => ?_) (fun h2 => ?_)
  · simp only [go_sem]
    exact fin Glob.d0 100 (pdesc_many hs (by omega)) _
  have hm := pdesc_few hs (by omega)
  have hne := Glob.dvd_ne s
  generalize Glob.dvd s = l at *
  have w0 : iw .i64 0 = 0 := rfl
  have w1 : iw .i64 1 = 1 := rfl
  have w2 : iw .i64 2 = 2 := rfl
  have w3 : iw .i64 3 = 3 := rfl
  have q0 : 16 * 0 ≤ 281474976710656 := by decide
  have q1 : 16 * 1 ≤ 281474976710656 := by decide
  have q2 : 16 * 2 ≤ 281474976710656 := by decide
  have q3 : 16 * 3 ≤ 281474976710656 := by decide
  match l, hne, h2, hm with
  | [a], _, _, hm =>
    simp only [go_sem,w0,w1,w2,w3]
    refine rK_chkI (by decide) ?_
    simp only [go_sem]
    refine draw [.qu 0 1, .rd 0 1, .rd 0 1, .qu 0 1, .rd 0 1, .rd 0 1, .qu 0 1, .rd 0 1, .rd 0 1, .qu 0 1, .rd 0 1, .rd 0 1, .qu 0 1, .mn 0, .mn 1] (by kernel_rfl) (by kernel_rfl) ?_
    simp only [go_sem]
    refine rK_use (Go.AM.enters_of Tryz.func33 rfl (by decide)) (ACalls.pure_use (dvalid_c ⟨[], [], [], a⟩) rfl rfl) ?_
    have hm : Glob.pdesc s = if (Dsc.mk [] [] [] a).ok = true then (Dsc.mk [] [] [] a, 0) else (Glob.d0, 100) := hm
    simp only [go_sem]
    refine condD_bool (fun h3 => ?_) (fun h3 => ?_)
    · simp only [go_sem]
      exact fin Glob.d0 100 (by rw [hm, if_neg (by simpa using h3)]) _
    · simp only [go_sem]
      exact fin (Dsc.mk [] [] [] a) 0 (by rw [hm, if_pos (by simpa using h3)]) _
  | [a, b], _, _, hm =>
    simp only [go_sem,w0,w1,w2,w3]
    refine rK_chkI (by decide) ?_
    simp only [go_sem]
    refine draw [.qu 0 1, .rd 0 1, .rd 0 1, .qu 0 1, .rd 0 1, .rd 0 1, .qu 0 1, .rd 0 1, .rd 0 1, .qu 0 1, .rd 0 1, .rd 0 1, .qu 0 1, .mn 0, .mn 1] (by kernel_rfl) (by kernel_rfl) ?_
    simp only [go_sem]
    refine rK_use (Go.AM.enters_of Tryz.func33 rfl (by decide)) (ACalls.pure_use (dvalid_c ⟨[], [], a, b⟩) rfl rfl) ?_
    have hm : Glob.pdesc s = if (Dsc.mk [] [] a b).ok = true then (Dsc.mk [] [] a b, 0) else (Glob.d0, 100) := hm
    simp only [go_sem]
    refine condD_bool (fun h3 => ?_) (fun h3 => ?_)
    · simp only [go_sem]
      exact fin Glob.d0 100 (by rw [hm, if_neg (by simpa using h3)]) _
    · simp only [go_sem]
      exact fin (Dsc.mk [] [] a b) 0 (by rw [hm, if_pos (by simpa using h3)]) _
  | [a, b, c], _, _, hm =>
    simp only [go_sem,w0,w1,w2,w3]
    refine rK_chkI (by decide) ?_
    simp only [go_sem]
    refine draw [.qu 0 1, .rd 0 1, .rd 0 1, .qu 0 1, .rd 0 1, .rd 0 1, .qu 0 1, .rd 0 1, .rd 0 1, .qu 0 1, .rd 0 1, .rd 0 1, .qu 0 1, .mn 0, .mn 1] (by kernel_rfl) (by kernel_rfl) ?_
    simp only [go_sem]
    refine rK_use (Go.AM.enters_of Tryz.func33 rfl (by decide)) (ACalls.pure_use (dvalid_c ⟨[], a, b, c⟩) rfl rfl) ?_
    have hm : Glob.pdesc s = if (Dsc.mk [] a b c).ok = true then (Dsc.mk [] a b c, 0) else (Glob.d0, 100) := hm
    simp only [go_sem]
    refine condD_bool (fun h3 => ?_) (fun h3 => ?_)
    · simp only [go_sem]
      exact fin Glob.d0 100 (by rw [hm, if_neg (by simpa using h3)]) _
    · simp only [go_sem]
      exact fin (Dsc.mk [] a b c) 0 (by rw [hm, if_pos (by simpa using h3)]) _
  | [a, b, c, d], _, _, hm =>
    simp only [go_sem,w0,w1,w2,w3]
    refine rK_chkI (by decide) ?_
    simp only [go_sem]
    refine draw [.qu 0 1, .rd 0 1, .rd 0 1, .qu 0 1, .rd 0 1, .rd 0 1, .qu 0 1, .rd 0 1, .rd 0 1, .qu 0 1, .rd 0 1, .rd 0 1, .qu 0 1, .mn 0, .mn 1] (by kernel_rfl) (by kernel_rfl) ?_
    simp only [go_sem]
    refine rK_use (Go.AM.enters_of Tryz.func33 rfl (by decide)) (ACalls.pure_use (dvalid_c ⟨a, b, c, d⟩) rfl rfl) ?_
    have hm : Glob.pdesc s = if (Dsc.mk a b c d).ok = true then (Dsc.mk a b c d, 0) else (Glob.d0, 100) := hm
    simp only [go_sem]
    refine condD_bool (fun h3 => ?_) (fun h3 => ?_)
    · simp only [go_sem]
      exact fin Glob.d0 100 (by rw [hm, if_neg (by simpa using h3)]) _
    · simp only [go_sem]
      exact fin (Dsc.mk a b c d) 0 (by rw [hm, if_pos (by simpa using h3)]) _
  | a :: b :: c :: d :: e :: l, _, h2, hm => simp at h2; omega
structure Pb where
  d : Dsc
  pid : Int
  at_ : Int
def Pb.row (x : Pb) : List AV := [Sv x.d.p, Sv x.d.m, Sv x.d.f, Sv x.d.n, iv x.pid, iv x.at_]
def Pb.av (x : Pb) : AV := .agg x.row
end Go.Proofs.YtigmnlnomhjecaaGreatDoor
set_option maxRecDepth 100000
set_option linter.unusedVariables false
set_option linter.unusedSimpArgs false
namespace Go.Proofs.YtigmnlnomhjecaaGreatDoor
open Go.AM
theorem up_sl {α : Type} {f : α → List AV} {sz r n : Nat} {l : List α} {xs : List (List AV)} {H : Heap} {Q : CQ} (hr : H[r]? = some (.rows sz xs)) (he : xs = l.map f) (hn : n = l.length) (hp : ∀ row ∈ l.map f, ∀ x ∈ row, x.pure = true) (hb : ∀ b ∈ H.set r .dead, b.fzOk r l.length)
    (hq : Q (.ret (.view false sz (l.map f))) []) : Up 0 Q (.ret (.sl r 0 n none)) H := by
  subst he hn
  refine .fz r sz (l.map f) hr hp (by simp [Out.fzOk, AV.fzOk]) (by rw [List.length_map]; exact hb) (.gc 0 (Nat.le_refl _) (Nat.zero_le _) ?_ (by simp) (.done ?_))
  · simp [Out.fz, AV.fz, Out.lt, AV.lt]
  · have : (List.take l.length (l.map f)) = l.map f := List.take_of_length_le (by simp)
    simpa [Out.fz, AV.fz, this] using hq
theorem sclone_c (l : List Int) (full : Bool) (hl : l.length ≤ 1000) : ACalls Tryz.prog 124 [.view full 1 (l.map r1)] [] (fun o H => o = .ret (.view false 1 (l.map r1)) ∧ H = []) := by
  refine ACalls.up ?_
  refine ACalls.intro (cs := []) (n := 8) Tryz.func124 rfl rfl rfl (by kernel_rfl) rfl ?_
  simp only [go_sem,rK_ndb]
  intro b hb
  refine condD_split (fun e => ?_) (fun e => ?_)
  · have hl0 : l = [] := by
      rw [List.length_map] at hb
      rcases l with _ | ⟨x, l⟩
      · rfl
      · have := hb (by simp); rw [e] at this; cases this
    subst hl0
    simp only [go_sem]
    exact .le (.ret (.nil _ _ 0 1 (by simp))) .nil (.done ⟨rfl, rfl⟩)
  · simp only [go_sem,List.length_map]
    refine ⟨by omega, ?_⟩
    simp only [go_sem]
    refine .fz 1 1 (l.map r1) rfl (r1_pure l) (by simp [Out.fzOk, AV.fzOk]) (by simp [Blk.fzOk]) ?_
    refine .gc 0 (Nat.le_refl _) (Nat.zero_le _) (by simp [Out.fz, AV.fz, Out.lt, AV.lt]) (by simp) (.done ⟨?_, rfl⟩)
    simp [Out.fz, AV.fz]
    rw [List.take_of_length_le (by simp)]
theorem at_c (l : List Int) (i : Nat) (x : Int) (full : Bool) (hl : l.length ≤ 1000) (hi : i ≤ l.length) : ACalls Tryz.prog 105 [.view full 1 (l.map r1), iv i, iv x] [] (fun o H => o = .ret (.view false 1 ((l.take i ++ x :: l.drop i).map r1)) ∧ H = []) := by
  refine ACalls.up ?_
  refine ACalls.intro (cs := []) (n := 18) Tryz.func105 rfl rfl rfl (by kernel_rfl) rfl ?_
  simp only [go_sem]
  refine draw [.qu 0 1, .qu 0 1, .qu 0 1, .rd 0 1, .qu 0 0, .mn 0, .mn 1, .qu 0 2, .qu 0 2, .rd 0 2, .mn 2, .qu 3 3] (by kernel_rfl) (by kernel_rfl) ?_
  have e1 : (0 : Int) ≤ i := by omega
  have e2 : (i : Int) ≤ l.length := by omega
  have e3 : (List.take i (l.map r1)).length = i := by simp; omega
  have e4 : i ≤ 68719476735 := by omega
  have e5 : (i : Int).toNat = i := rfl
  simp only [go_sem,List.length_map,e1,e2,Int.le_refl,e3,e4,false_and]
  refine ⟨⟨by simp; omega, by simp; omega⟩, ?_⟩
  refine up_sl (l := l.take i ++ x :: l.drop i) (f := r1) rfl ?_ ?_ (r1_pure _) (by simp [Blk.fzOk, fzOkL, AV.fzOk]) ⟨rfl, rfl⟩
  · rw [List.take_of_length_le (by simp; omega)]
    simp
  · simp; omega
end Go.Proofs.YtigmnlnomhjecaaGreatDoor
set_option maxRecDepth 100000
set_option linter.unusedVariables false
set_option linter.unusedSimpArgs false
namespace Go.Proofs.YtigmnlnomhjecaaGreatDoor
open Go.AM
def idxF (p : Int → Bool) : List Int → Int → Int
  | [], _ => -1
  | y :: l, i => if p y = true then i else idxF p l (i + 1)
theorem indexFunc_c (l : List Int) (p : Int → Bool) (full : Bool) (g : FuncId) (cap : List AV) (H : Heap) (hE : Enters Tryz.prog g) (hg : ∀ x ∈ l, ACalls Tryz.prog g (iv x :: cap) H (fun o H2 => o = .ret (.bool (p x)) ∧ H2 = H)) :
    ACalls Tryz.prog 103 [.view full 1 (l.map r1), .func (.func g) [] cap] H (fun o H2 => o = .ret (iv (idxF p l 0)) ∧ H2 = H) := by
  refine ACalls.small fun hsm => ?_
  simp only [smallL, AV.small, List.length_map, maxLen] at hsm
  refine ACalls.intro (cs := []) (n := 19) Tryz.func103 rfl rfl rfl (by kernel_rfl) rfl ?_
  simp only [go_sem]
  refine loop_fam (fun i : Nat => ((((Ch.nil.put 0 (.view full 1 (l.map r1))).put 1 (.func (.func g) [] cap)).put 7 (iv l.length)).put 8 (iv i))) (fun _ => H) (fun i => l.length - i) (fun i => i ≤ l.length ∧ idxF p l 0 = idxF p (l.drop i) i) 0 (by kernel_rfl) ⟨Nat.zero_le _, by simp⟩ (Wk.slots' rfl (by simp [wkS, Ch.get])) ?_
  rintro i ⟨hi, hx⟩ K hK
  simp only [go_sem]
  refine condD_dec (fun hc => ?_) (fun hc => ?_)
  · have hc' : i < l.length := by omega
    obtain ⟨y, hy⟩ := at_lt hc'
    have e1 : iw .i64 ((i : Int) + 1) = ((i + 1 : Nat) : Int) := by rw [iw64] <;> omega
    simp only [go_sem,List.length_map,List.getElem?_map,hy,hc,Int.natCast_nonneg]
    refine rK_use hE (hg y (List.mem_of_getElem? hy)) ?_
    simp only [go_sem]
    refine condD_split (fun hd => ?_) (fun hd => ?_)
    · simp only [go_sem]
      rw [hx, drop_at hy, idxF, if_pos hd]
    · simp only [go_sem,e1]
      refine hK (i + 1) _ _ ⟨hc', ?_⟩ (by omega) (Wk.slots' rfl (by simp [wkS, Ch.get]))
      rw [hx, drop_at hy, idxF, if_neg (by simp [hd])]
      simp
  · simp only [go_sem]
    have : l.drop i = [] := by simp; omega
    rw [hx, this, idxF]
def refuse (e : Int) : AV := .iface 215 (.agg [iv e])
theorem must_c (b : Bool) (e : Int) : ACalls Tryz.prog 83 [.bool b, iv e] [] (fun o H => o = (if b = true then .ret (.tuple []) else .pan (refuse e)) ∧ H = []) := by
  refine ACalls.intro (cs := []) (n := 9) Tryz.func83 rfl rfl rfl (by kernel_rfl) rfl ?_
  simp only [go_sem]
  cases b
  · simp only [go_sem]
    rfl
  · simp only [go_sem]
theorem must_t (e : Int) : ACalls Tryz.prog 83 [.bool true, iv e] [] (fun o H => o = .ret (.tuple []) ∧ H = []) := (must_c true e).mono fun _ _ h => by simpa using h
theorem must_f (e : Int) : ACalls Tryz.prog 83 [.bool false, iv e] [] (fun o H => o = .pan (refuse e) ∧ H = []) := (must_c false e).mono fun _ _ h => by simpa using h
theorem isPri_c (x : Int) : ACalls Tryz.prog 84 [iv x] [] (fun o H => o = .ret (.bool (decide (0 ≤ x ∧ x ≤ 7))) ∧ H = []) := by
  refine ACalls.intro (cs := []) (n := 9) Tryz.func84 rfl rfl rfl (by kernel_rfl) rfl ?_
  simp only [go_sem]
  refine gD_dec (fun hc => ?_) (fun hc => ?_) <;> simp only [go_sem,hc,true_and,false_and]
end Go.Proofs.YtigmnlnomhjecaaGreatDoor
set_option maxRecDepth 100000
set_option linter.unusedVariables false
set_option linter.unusedSimpArgs false
namespace Go.Proofs.YtigmnlnomhjecaaGreatDoor
open Go.AM
structure Q where
  run : Int
  left : Int
  ready : List Int
structure T where
  pri : Int
  cpu : Int
  st : Int
structure S where
  cpus : List Q
  thr : List T
  quantum : Int
def Q.row (q : Q) : List AV := [iv q.run, iv q.left, .view false 1 (q.ready.map r1)]
def T.row (t : T) : List AV := [iv t.pri, iv t.cpu, iv t.st]
def S.av (s : S) : AV := .agg [.view false 3 (s.cpus.map Q.row), .view false 3 (s.thr.map T.row), iv s.quantum]
def S.heap (s : S) (rest : Heap) : Heap := .rows 3 [[.sl 1 0 s.cpus.length none, .sl 2 0 s.thr.length none, iv s.quantum]] :: .rows 3 (s.cpus.map Q.row) :: .rows 3 (s.thr.map T.row) :: rest
theorem S.heap_lt (s : S) : ∀ b ∈ s.heap [], b.lt 3 := by
  intro b hb
  simp only [S.heap, List.mem_cons, List.not_mem_nil, or_false] at hb
  rcases hb with rfl | rfl | rfl
  · simp [Blk.lt, ltL, AV.lt]
  · intro row hr
    obtain ⟨q, _, rfl⟩ := List.mem_map.1 hr
    simp [Q.row, ltL, AV.lt]
  · intro row hr
    obtain ⟨t, _, rfl⟩ := List.mem_map.1 hr
    simp [T.row, ltL, AV.lt]
theorem S.heap_up {s : S} {H : Heap} {v : AV} {Q : CQ} (hv : v.lt 3 = true) (hl : 3 ≤ H.length) (he : H.take 3 = s.heap []) (hq : Q (.ret v) (s.heap [])) : Up 3 Q (.ret v) H :=
  .gc 3 (Nat.le_refl _) hl (by simpa [Out.lt] using hv) (he ▸ s.heap_lt) (.done (by rw [he]; exact hq))
theorem cpu_c (s : S) (n : Int) : ACalls Tryz.prog 82 [.ptr 0 0 0, iv n] (s.heap []) (fun o H => o = (if 0 ≤ n ∧ n < s.cpus.length then .ret (.ptr 1 n.toNat 0) else .pan (refuse 52)) ∧ H = s.heap []) := by
  refine ACalls.intro (cs := []) (n := 25) Tryz.func82 rfl rfl rfl (by kernel_rfl) rfl ?_
  simp only [go_sem,S.heap]
  refine gD_dec (fun hc => ?_) (fun hc => ?_) <;> simp only [go_sem,hc,List.length_map]
  · by_cases h2 : n < s.cpus.length
    · rw [decide_eq_true h2]
      refine rK_use (Go.AM.enters_of Tryz.func83 rfl (by decide)) (ACalls.pure_use (must_t _) rfl rfl) ?_
      simp only [go_sem,List.length_map,hc,h2]
    · rw [decide_eq_false h2]
      refine rK_pans (Go.AM.enters_of Tryz.func83 rfl (by decide)) (ACalls.pure_pan (must_f _) rfl rfl) ?_
      simp only [go_sem,hc,h2,and_false]
  · refine rK_pans (Go.AM.enters_of Tryz.func83 rfl (by decide)) (ACalls.pure_pan (must_f _) rfl rfl) ?_
    simp only [go_sem,hc,false_and]
end Go.Proofs.YtigmnlnomhjecaaGreatDoor
set_option maxRecDepth 100000
set_option linter.unusedVariables false
set_option linter.unusedSimpArgs false
namespace Go.Proofs.YtigmnlnomhjecaaGreatDoor
open Go.AM
def S.pri (s : S) (x : Int) : Int := match s.thr[x.toNat]? with
  | some t => t.pri
  | none => 0
def S.below (s : S) (p : Int) (front : Bool) (x : Int) : Bool := decide (s.pri x < p) || (front && decide (s.pri x = p))
def ins (l : List Int) (k x : Int) : List Int := if k < 0 then l ++ [x] else l.take k.toNat ++ x :: l.drop k.toNat
def S.put (s : S) (i : Nat) (front : Bool) : S := match s.thr[i]? with
  | none => s
  | some t => match s.cpus[t.cpu.toNat]? with
    | none => s
    | some q => { s with thr := s.thr.set i { t with st := 1 }, cpus := s.cpus.set t.cpu.toNat { q with ready := ins q.ready (idxF (s.below t.pri front) q.ready 0) i } }
theorem idxF_le (p : Int → Bool) : ∀ (l : List Int) (i : Int), idxF p l i < i + l.length ∨ idxF p l i = -1
  | [], i => by simp [idxF]
  | y :: l, i => by
    have := idxF_le p l (i + 1)
    simp only [idxF, List.length_cons]
    split <;> omega
theorem S.pri_st {s : S} {i : Nat} {t : T} {st : Int} (ht : s.thr[i]? = some t) (x : Int) : S.pri { s with thr := s.thr.set i { t with st := st } } x = s.pri x := by
  simp only [S.pri, List.getElem?_set]
  have hlt : i < s.thr.length := (List.getElem?_eq_some_iff.1 ht).1
  by_cases hx : i = x.toNat
  · rw [if_pos hx, if_pos hlt, ← hx, ht]
  · rw [if_neg hx]
theorem put1_c (s : S) (cs : List (List AV)) (i : Nat) (front : Bool) (t : T) (nc : Nat) (ht : s.thr[i]? = some t) (x : Int) (h0 : 0 ≤ x) (h1 : x < s.thr.length) :
    ACalls Tryz.prog 104 [iv x, .ptr 3 0 0, .ptr 5 0 0, .ptr 4 0 0] [.rows 3 [[.sl 1 0 nc none, .sl 2 0 s.thr.length none, iv s.quantum]], .rows 3 cs, .rows 3 (s.thr.map T.row), .rows 1 [[.ptr 0 0 0]], .rows 1 [[.bool front]], .rows 1 [[.ptr 2 i 0]]]
      (fun o H => o = .ret (.bool (s.below t.pri front x)) ∧ H = [.rows 3 [[.sl 1 0 nc none, .sl 2 0 s.thr.length none, iv s.quantum]], .rows 3 cs, .rows 3 (s.thr.map T.row), .rows 1 [[.ptr 0 0 0]], .rows 1 [[.bool front]], .rows 1 [[.ptr 2 i 0]]]) := by
  have hlt : i < s.thr.length := (List.getElem?_eq_some_iff.1 ht).1
  obtain ⟨y, hy⟩ : ∃ y, s.thr[x.toNat]? = some y := ⟨_, List.getElem?_eq_getElem (by omega)⟩
  have hxl : x.toNat < s.thr.length := by omega
  have hb : s.below t.pri front x = (decide (y.pri < t.pri) || (front && decide (y.pri = t.pri))) := by simp [S.below, S.pri, hy]
  rw [hb]
  refine ACalls.intro (cs := []) (n := 33) Tryz.func104 rfl rfl rfl (by kernel_rfl) rfl ?_
  simp only [go_sem,List.length_map,List.getElem?_map,ht,hy,h1,h0,hlt,hxl,T.row]
  refine gD_dec (fun hc => ?_) (fun hc => ?_) <;> simp only [go_sem,List.length_map,List.getElem?_map,ht,hy,hlt,T.row,hc,Bool.true_or,Bool.false_or]
  cases front <;> simp only [go_sem,List.length_map,List.getElem?_map,ht,hy,hlt,T.row,Bool.false_and,Bool.true_and]
theorem put_c (s : S) (i : Nat) (front : Bool) (t : T) (q : Q) (ht : s.thr[i]? = some t) (hc : 0 ≤ t.cpu) (hq : s.cpus[t.cpu.toNat]? = some q) (hr : ∀ x ∈ q.ready, 0 ≤ x ∧ x < s.thr.length) (hl : q.ready.length ≤ 1000) :
    ACalls Tryz.prog 85 [.ptr 0 0 0, iv i, .bool front] (s.heap []) (fun o H => o = .ret (.tuple []) ∧ H = (s.put i front).heap []) := by
  have hlt : i < s.thr.length := (List.getElem?_eq_some_iff.1 ht).1
  have h1 : (i : Int) < s.thr.length := by omega
  have h0 : (0 : Int) ≤ i := by omega
  have hcl : t.cpu.toNat < s.cpus.length := (List.getElem?_eq_some_iff.1 hq).1
  have h2 : t.cpu < s.cpus.length := by omega
  have hset : (s.thr.map T.row).set i [iv t.pri, iv t.cpu, iv 1] = (s.thr.set i { t with st := 1 }).map T.row := by rw [List.map_set]; rfl
  have ht' : (s.thr.set i { t with st := 1 })[i]? = some { t with st := 1 } := by rw [List.getElem?_set_self hlt]
  refine ACalls.up ?_
  refine ACalls.intro (cs := []) (n := 52) Tryz.func85 rfl rfl rfl (by kernel_rfl) rfl ?_
  generalize hpost : (fun o H => o = Out.ret (.tuple []) ∧ H = (s.put i front).heap []) = post
  simp only [go_sem,S.heap,List.length_map,List.getElem?_map,ht,h1,h0,hlt,T.row]
  refine draw [.qu 0 0, .qu 0 0, .qu 0 0, .qu 0 0, .qu 0 0, .qu 0 0, .qu 0 0, .qu 0 0, .qu 0 0, .qu 0 0, .qu 0 0] (by kernel_rfl) (by kernel_rfl) ?_
  rw [hset]
  simp only [go_sem,List.length_map,List.getElem?_map,ht',h2,hc,hlt,hcl,hq,T.row,Q.row,List.length_set]
  have hpri : ∀ x, S.pri { s with thr := s.thr.set i { t with st := 1 } } x = s.pri x := S.pri_st ht
  have hb1 : ∀ x, S.below { s with thr := s.thr.set i { t with st := 1 } } t.pri front x = s.below t.pri front x := fun x => by
    rw [S.below, S.below, hpri]
  refine rK_use (Go.AM.enters_of Tryz.func103 rfl (by decide)) (indexFunc_c q.ready (s.below t.pri front) false _ _ _ (Go.AM.enters_of Tryz.func104 rfl (by decide)) ?_) ?_
  · intro x hx
    have := put1_c { s with thr := s.thr.set i { t with st := 1 } } (s.cpus.map Q.row) i front { t with st := 1 } s.cpus.length ht' x (hr x hx).1 (by simpa using (hr x hx).2)
    simp only [hb1, List.length_set] at this
    exact this
  have hput : s.put i front = { s with thr := s.thr.set i { t with st := 1 }, cpus := s.cpus.set t.cpu.toNat { q with ready := ins q.ready (idxF (s.below t.pri front) q.ready 0) i } } := by
    simp only [S.put, ht, hq]
  have hrow : ∀ l : List Int, (s.cpus.map Q.row).set t.cpu.toNat [iv q.run, iv q.left, .view false 1 (l.map r1)] = (s.cpus.set t.cpu.toNat { q with ready := l }).map Q.row := fun l => by rw [List.map_set]; rfl
  simp only [go_sem]
  refine condD_dec (fun hd => ?_) (fun hd => ?_)
  · simp only [go_sem,List.length_map,List.getElem?_map,ht',h2,hc,hlt,hcl,hq,T.row,Q.row,List.length_set]
    refine rK_use (Go.AM.enters_of Tryz.func105 rfl (by decide)) (ACalls.pure_use (at_c q.ready q.ready.length i false hl (Nat.le_refl _)) rfl rfl) ?_
    simp only [go_sem,List.length_map,List.getElem?_map,ht',h2,hc,hlt,hcl,hq,T.row,Q.row,List.length_set]
    rw [hrow]
    subst hpost
    rw [hput]
    refine S.heap_up rfl (by simp) ?_ ⟨rfl, rfl⟩
    have : ins q.ready (idxF (s.below t.pri front) q.ready 0) i = List.take q.ready.length q.ready ++ (i : Int) :: List.drop q.ready.length q.ready := by
      rw [ins, if_pos hd]; simp
    simp [S.heap, this]
  · obtain ⟨k, hk⟩ : ∃ k : Nat, idxF (s.below t.pri front) q.ready 0 = k := ⟨(idxF (s.below t.pri front) q.ready 0).toNat, by omega⟩
    have hk2 : k ≤ q.ready.length := by
      have := idxF_le (s.below t.pri front) q.ready 0
      omega
    rw [hk]
    simp only [go_sem,List.length_map,List.getElem?_map,ht',h2,hc,hlt,hcl,hq,T.row,Q.row,List.length_set]
    refine rK_use (Go.AM.enters_of Tryz.func105 rfl (by decide)) (ACalls.pure_use (at_c q.ready k i false hl hk2) rfl rfl) ?_
    simp only [go_sem,List.length_map,List.getElem?_map,ht',h2,hc,hlt,hcl,hq,T.row,Q.row,List.length_set]
    rw [hrow]
    subst hpost
    rw [hput]
    refine S.heap_up rfl (by simp) ?_ ⟨rfl, rfl⟩
    have : ins q.ready (idxF (s.below t.pri front) q.ready 0) i = List.take k q.ready ++ (i : Int) :: List.drop k q.ready := by
      rw [hk, ins, if_neg (by omega)]; simp
    simp [S.heap, this]
end Go.Proofs.YtigmnlnomhjecaaGreatDoor
set_option maxRecDepth 100000
set_option linter.unusedVariables false
set_option linter.unusedSimpArgs false
namespace Go.Proofs.YtigmnlnomhjecaaGreatDoor
open Go.AM
def Q.out (q : Q) (i : Int) : Q := { run := if q.run = i then -1 else q.run, left := if q.run = i then 0 else q.left, ready := q.ready.erase i }
def S.take (s : S) (i : Nat) : S := match s.thr[i]? with
  | none => s
  | some t => match s.cpus[t.cpu.toNat]? with
    | none => s
    | some q => { s with cpus := s.cpus.set t.cpu.toNat (q.out i) }
def Q.load (q : Q) : Int := q.ready.length + if 0 ≤ q.run then 1 else 0
end Go.Proofs.YtigmnlnomhjecaaGreatDoor
set_option maxRecDepth 100000
set_option linter.unusedVariables false
set_option linter.unusedSimpArgs false
namespace Go.Proofs.YtigmnlnomhjecaaGreatDoor
open Go.AM
theorem clone_q_c (l : List Q) (full : Bool) (hl : l.length ≤ 1000) : ACalls Tryz.prog 122 [.view full 3 (l.map Q.row)] [] (fun o H => o = .ret (.sl 1 0 l.length none) ∧ H = [.dead, .rows 3 (l.map Q.row)]) := by
  refine ACalls.up ?_
  refine ACalls.intro (cs := []) (n := 8) Tryz.func122 rfl rfl rfl (by kernel_rfl) rfl ?_
  simp only [go_sem,rK_ndb]
  intro b hb
  refine condD_split (fun e => ?_) (fun e => ?_)
  · have hl0 : l = [] := by
      rw [List.length_map] at hb
      rcases l with _ | ⟨x, l⟩
      · rfl
      · have := hb (by simp); rw [e] at this; cases this
    subst hl0
    simp only [go_sem]
    exact .ghost .dead (.nils _ 3 (.done ⟨rfl, rfl⟩))
  · simp only [go_sem,List.length_map]
    refine ⟨by omega, ?_⟩
    exact .done ⟨rfl, rfl⟩
theorem clone_t_c (l : List T) (full : Bool) (hl : l.length ≤ 1000) : ACalls Tryz.prog 123 [.view full 3 (l.map T.row)] [] (fun o H => o = .ret (.sl 1 0 l.length none) ∧ H = [.dead, .rows 3 (l.map T.row)]) := by
  refine ACalls.up ?_
  refine ACalls.intro (cs := []) (n := 8) Tryz.func123 rfl rfl rfl (by kernel_rfl) rfl ?_
  simp only [go_sem,rK_ndb]
  intro b hb
  refine condD_split (fun e => ?_) (fun e => ?_)
  · have hl0 : l = [] := by
      rw [List.length_map] at hb
      rcases l with _ | ⟨x, l⟩
      · rfl
      · have := hb (by simp); rw [e] at this; cases this
    subst hl0
    simp only [go_sem]
    exact .ghost .dead (.nils _ 3 (.done ⟨rfl, rfl⟩))
  · simp only [go_sem,List.length_map]
    refine ⟨by omega, ?_⟩
    exact .done ⟨rfl, rfl⟩
theorem Q.rows_lt (l : List Q) (m : Nat) : ∀ row ∈ l.map Q.row, ltL m row = true := by
  intro row hr
  obtain ⟨q, _, rfl⟩ := List.mem_map.1 hr
  simp [Q.row, ltL, AV.lt]
theorem T.rows_lt (l : List T) (m : Nat) : ∀ row ∈ l.map T.row, ltL m row = true := by
  intro row hr
  obtain ⟨q, _, rfl⟩ := List.mem_map.1 hr
  simp [T.row, ltL, AV.lt]
theorem ACalls.news {P : Program} {f : FuncId} {args : List AV} {sz : Nat} {xs : List (List AV)} {n : Nat} (hc : ACalls P f args [] fun o H => o = .ret (.sl 1 0 n none) ∧ H = [.dead, .rows sz xs]) (ha : ltL 0 args = true) (hx : ∀ row ∈ xs, ltL 0 row = true) {H : Heap} :
    ACalls P f args H fun o H2 => o = .ret (.sl (H.length + 1) 0 n none) ∧ H2 = H ++ [.dead, .rows sz xs] := by
  refine hc.use (H := H) [] List.nodup_nil rfl (by simp) (by simp) (renL_pure' ha).symm ?_
  rintro o H0' ⟨rfl, rfl⟩
  refine ⟨?_, ?_⟩
  · simp [Out.ren, AV.ren, pi]
  · have : xs.map (fun row => row.map (AV.ren (pi [] H.length))) = xs := by
      conv => rhs; rw [← List.map_id' xs]
      exact List.map_congr_left fun row hr => renL_pure' (hx row hr)
    simp [patch, setMany, Blk.ren, this]
theorem clone_c (s : S) (h1 : s.cpus.length ≤ 4) (h2 : s.thr.length ≤ 16) (h3 : ∀ q ∈ s.cpus, q.ready.length ≤ 1000) :
    ACalls Tryz.prog 102 [s.av] [] (fun o H => o = .ret (.agg [.sl 3 0 s.cpus.length none, .sl 5 0 s.thr.length none, iv s.quantum]) ∧ H = [.rows 3 [[.sl 3 0 s.cpus.length none, .sl 5 0 s.thr.length none, iv s.quantum]], .rows 3 [[.sl 3 0 s.cpus.length none, .sl 5 0 s.thr.length none, iv s.quantum]], .dead, .rows 3 (s.cpus.map Q.row), .dead, .rows 3 (s.thr.map T.row)]) := by
  refine ACalls.up ?_
  refine ACalls.intro (cs := []) (n := 32) Tryz.func102 rfl rfl rfl (by kernel_rfl) rfl ?_
  simp only [go_sem,S.av]
  refine draw [.qu 0 0, .qu 0 0, .mn 0, .qu 0 1, .rd 0 1, .mn 1, .qu 1 2, .mn 2, .qu 3 3, .mn 3] (by kernel_rfl) (by kernel_rfl) ?_
  simp only [go_sem]
  refine dM_call (Go.AM.enters_of Tryz.func122 rfl (by decide)) (ACalls.news (clone_q_c s.cpus false (by omega)) rfl (Q.rows_lt _ _)) ?_
  simp only [go_sem]
  refine dM_call (Go.AM.enters_of Tryz.func123 rfl (by decide)) (ACalls.news (clone_t_c s.thr false (by omega)) rfl (T.rows_lt _ _)) ?_
  simp only [go_sem]
  refine loop_fam (fun i : Nat => (((Ch.nil.put 1 (.ptr 0 0 0)).put 2 (.ptr 1 0 0)).put 14 (iv s.cpus.length)).put 15 (iv i))
    (fun _ => [Blk.rows 3 [[.sl 3 0 s.cpus.length none, .sl 5 0 s.thr.length none, iv s.quantum]], .rows 3 [[.view true 0 [], .view true 0 [], iv 0]], .dead, .rows 3 (s.cpus.map Q.row), .dead, .rows 3 (s.thr.map T.row)]) (fun i => s.cpus.length - i) (fun i => i ≤ s.cpus.length) 0 (by kernel_rfl) (Nat.zero_le _) (Wk.slots' rfl (by simp [wkS, Ch.get])) ?_
  rintro i hi K hK
  simp only [go_sem]
  refine condD_dec (fun hc => ?_) (fun hc => ?_)
  · have hc' : i < s.cpus.length := by omega
    obtain ⟨q, hq⟩ := at_lt hc'
    have hql := h3 q (List.mem_of_getElem? hq)
    have e1 : iw .i64 ((i : Int) + 1) = ((i + 1 : Nat) : Int) := by rw [iw64] <;> omega
    simp only [go_sem]
    refine draw [.qu 0 1, .rd 0 1, .qu 0 1, .qu 0 0, .qu 0 0, .qu 0 0, .qu 0 0, .qu 0 0, .qu 0 0, .mn 0, .qu 1 1, .qu 1 1, .mn 1] (by kernel_rfl) (by kernel_rfl) ?_
    simp only [go_sem,List.length_map,List.getElem?_map,hq,hc,hc',Int.natCast_nonneg,Q.row]
    refine dM_call (Go.AM.enters_of Tryz.func124 rfl (by decide)) (ACalls.pure_use (sclone_c q.ready false hql) rfl rfl) ?_
    simp only [go_sem,List.length_map,List.getElem?_map,hq,hc,hc',Int.natCast_nonneg,Q.row,e1]
    refine hK (i + 1) _ _ hc' (by omega) (Wk.slots' ?_ (by simp [wkS, Ch.get]))
    have : (s.cpus.map Q.row).set i [iv q.run, iv q.left, .view false 1 (q.ready.map r1)] = s.cpus.map Q.row := List.set_getElem?_self' (by rw [List.getElem?_map, hq]; rfl)
    rw [this]
  · simp only [go_sem]
    exact .done ⟨rfl, rfl⟩
theorem Q.rows_ren (l : List Q) (π : Nat → Nat) : (l.map Q.row).map (fun row => row.map (AV.ren π)) = l.map Q.row := by
  conv => rhs; rw [← List.map_id' (l.map Q.row)]
  exact List.map_congr_left fun row hr => renL_pure' (Q.rows_lt l 0 row hr)
theorem T.rows_ren (l : List T) (π : Nat → Nat) : (l.map T.row).map (fun row => row.map (AV.ren π)) = l.map T.row := by
  conv => rhs; rw [← List.map_id' (l.map T.row)]
  exact List.map_congr_left fun row hr => renL_pure' (T.rows_lt l 0 row hr)
theorem bren_Q (l : List Q) (π : Nat → Nat) : Blk.ren π (.rows 3 (l.map Q.row)) = .rows 3 (l.map Q.row) := by rw [Blk.ren, Q.rows_ren]
theorem bren_T (l : List T) (π : Nat → Nat) : Blk.ren π (.rows 3 (l.map T.row)) = .rows 3 (l.map T.row) := by rw [Blk.ren, T.rows_ren]
theorem clone_u (s : S) (h1 : s.cpus.length ≤ 4) (h2 : s.thr.length ≤ 16) (h3 : ∀ q ∈ s.cpus, q.ready.length ≤ 1000) (H : Heap) (n : Nat) (hn : H.length = n) :
    ACalls Tryz.prog 102 [s.av] H (fun o H2 => o = .ret (.agg [.sl (n + 3) 0 s.cpus.length none, .sl (n + 5) 0 s.thr.length none, iv s.quantum]) ∧
      H2 = H ++ [.rows 3 [[.sl (n + 3) 0 s.cpus.length none, .sl (n + 5) 0 s.thr.length none, iv s.quantum]], .rows 3 [[.sl (n + 3) 0 s.cpus.length none, .sl (n + 5) 0 s.thr.length none, iv s.quantum]], .dead, .rows 3 (s.cpus.map Q.row), .dead, .rows 3 (s.thr.map T.row)]) := by
  subst hn
  refine (clone_c s h1 h2 h3).use (H := H) [] List.nodup_nil rfl (by simp) (by simp) (renL_pure' (by simp [ltL, S.av, AV.lt])).symm ?_
  rintro o H0' ⟨rfl, rfl⟩
  refine ⟨?_, ?_⟩
  · simp [Out.ren, AV.ren, pi, renL]
  · simp only [patch, setMany, List.length_nil, List.drop_zero, List.map_cons, List.map_nil, bren_Q, bren_T]
    simp [Blk.ren, AV.ren, pi]
end Go.Proofs.YtigmnlnomhjecaaGreatDoor
set_option maxRecDepth 100000
set_option linter.unusedVariables false
set_option linter.unusedSimpArgs false
namespace Go.Proofs.YtigmnlnomhjecaaGreatDoor
open Go.AM
def S.row (s : S) : List AV := [.view false 3 (s.cpus.map Q.row), .view false 3 (s.thr.map T.row), iv s.quantum]
def S.is (s : S) (x c st : Int) : Bool := match s.thr[x.toNat]? with
  | some t => decide (0 ≤ x) && decide (t.cpu = c) && decide (t.st = st)
  | none => false
theorem S.is_lt {s : S} {x c st : Int} (h : s.is x c st = true) : 0 ≤ x ∧ x < s.thr.length := by
  unfold S.is at h
  split at h
  · rename_i t ht
    have := (List.getElem?_eq_some_iff.1 ht).1
    simp at h
    omega
  · cases h
theorem is0_c (s : S) (x c st : Int) : ACalls Tryz.prog 92 [iv x, iv c, iv st, .ptr 0 0 0] [.rows 3 [s.row]] (fun o H => o = .ret (.bool (s.is x c st)) ∧ H = [.rows 3 [s.row]]) := by
  refine ACalls.intro (cs := []) (n := 37) Tryz.func92 rfl rfl rfl (by kernel_rfl) rfl ?_
  simp only [go_sem,S.row]
  refine gD_dec (fun hc => ?_) (fun hc => ?_) <;> simp only [go_sem,hc,List.length_map]
  · refine gD_dec (fun hd => ?_) (fun hd => ?_) <;> simp only [go_sem,hd,List.length_map]
    · have hlt : x.toNat < s.thr.length := by omega
      obtain ⟨t, ht⟩ := at_lt hlt
      have e : s.is x c st = (decide (t.cpu = c) && decide (t.st = st)) := by simp [S.is, ht, hc]
      rw [e]
      simp only [go_sem,List.length_map,List.getElem?_map,ht,hlt,hc,hd,T.row]
      refine gD_dec (fun hg => ?_) (fun hg => ?_) <;> simp only [go_sem,hg,List.length_map,List.getElem?_map,ht,hlt,hc,hd,T.row,Bool.false_and]
    · have : s.thr[x.toNat]? = none := by rw [List.getElem?_eq_none_iff]; omega
      simp [S.is, this]
  · have : s.is x c st = false := by
      unfold S.is
      split <;> simp; omega
    simp [this]
theorem is_c (s : S) (x c st : Int) (rest : Heap) : ACalls Tryz.prog 92 [iv x, iv c, iv st, .ptr 0 0 0] (.rows 3 [s.row] :: rest) (fun o H => o = .ret (.bool (s.is x c st)) ∧ H = .rows 3 [s.row] :: rest) := by
  refine (is0_c s x c st).keep [0] (by simp) rfl ?_ (by simp [AV.ren, pi])
  intro k hk
  obtain rfl : k = 0 := by simpa using hk
  have : s.row.map (AV.ren (pi [0] (Blk.rows 3 [s.row] :: rest).length)) = s.row := renL_pure' (by simp [S.row, ltL, AV.lt])
  simp only [List.length_cons] at this
  simp [pi, Blk.ren, this]
def S.up (s : S) : Option Int → Int → Bool
  | some y, x => decide (s.pri y < s.pri x)
  | none, _ => false
def S.scanR (s : S) (c : Int) : Option Int → List Int → List Int → Option (List Int)
  | _, [], seen => some seen
  | p, x :: l, seen => if s.is x c 1 = false ∨ x ∈ seen ∨ s.up p x = true then none else s.scanR c (some x) l (seen ++ [x])
def S.badQ (s : S) (c : Int) (q : Q) : Bool := if q.run = -1 then decide (q.left ≠ 0) else !(s.is q.run c 2) || decide (q.left < 0) || decide (s.quantum < q.left)
def S.scanQ (s : S) : Int → List Q → List Int → Int → Int → Bool
  | _, [], _, a, b => decide (a = 0) && decide (b = 0)
  | c, q :: l, seen, a, b => if s.badQ c q = true then false else match s.scanR c none q.ready seen with
    | none => false
    | some seen' => s.scanQ (c + 1) l seen' (a - q.ready.length) (if q.run = -1 then b else b - 1)
def S.badT (s : S) (t : T) : Bool := decide (t.pri < 0) || decide (7 < t.pri) || decide (t.cpu < 0) || decide ((s.cpus.length : Int) ≤ t.cpu) || decide (t.st < 1) || decide (4 < t.st)
def S.scanT (s : S) : List T → Int → Int → Option (Int × Int)
  | [], a, b => some (a, b)
  | t :: l, a, b => if s.badT t = true then none else if t.st = 1 then s.scanT l (a + 1) b else if t.st = 2 then s.scanT l a (b + 1) else s.scanT l a b
def S.valid (s : S) : Bool := if s.cpus.length < 1 ∨ 4 < s.cpus.length ∨ 16 < s.thr.length ∨ s.quantum < 1 ∨ 20 < s.quantum then false else
  match s.scanT s.thr 0 0 with
  | none => false
  | some (a, b) => s.scanQ 0 s.cpus [] a b
def S.mid (s : S) : Option (Int × Int) → Bool
  | none => false
  | some (a, b) => s.scanQ 0 s.cpus [] a b
theorem up_bool {b : Bool} {H : Heap} {Q : CQ} (hq : Q (.ret (.bool b)) []) : Up 0 Q (.ret (.bool b)) H :=
  .gc 0 (Nat.le_refl _) (Nat.zero_le _) rfl (by simp) (.done (by simpa using hq))
def seenE (x : Int) : AV × AV := (iv x, .bool true)
def S.nx (s : S) (c : Int) (l : List Q) (a b : Int) : Option (List Int) → Bool
  | none => false
  | some seen' => s.scanQ (c + 1) l seen' a b
def prevAt (l : List Int) (j : Nat) : Option Int := if j = 0 then none else l[j - 1]?
theorem pigeon : ∀ (n : Nat) (l : List Int), l.Nodup → (∀ y ∈ l, 0 ≤ y ∧ y < n) → l.length ≤ n
  | 0, l, _, h => by
    rcases l with _ | ⟨x, l⟩
    · simp
    · have := h x (by simp); omega
  | n + 1, l, hd, h => by
    have h1 := pigeon n (l.erase n) (hd.erase _) fun y hy => by
      rw [hd.mem_erase_iff] at hy
      have := h y hy.2
      have := hy.1
      omega
    have := List.length_erase (a := (n : Int)) (l := l)
    split at this <;> omega
theorem mfind_seen (x : Int) : ∀ (l : List Int) (i : Nat), ∃ o, mfind (iv x) (l.map seenE) i = some o ∧ (x ∈ l → ∃ k, o = some (k, .bool true)) ∧ (x ∉ l → o = none)
  | [], i => ⟨none, rfl, by simp, by simp⟩
  | y :: l, i => by
    obtain ⟨o, h1, h2, h3⟩ := mfind_seen x l (i + 1)
    by_cases h : x = y
    · subst h
      exact ⟨some (i, .bool true), by simp [mfind, seenE, keyEq], fun _ => ⟨_, rfl⟩, fun h => absurd (by simp) h⟩
    · refine ⟨o, by simp [mfind, seenE, keyEq, h]; exact h1, fun hm => h2 ?_, fun hm => h3 fun h' => hm (by simp [h'])⟩
      rcases List.mem_cons.1 hm with e | e
      · exact absurd e h
      · exact e
theorem valid_c (s : S) : ACalls Tryz.prog 68 [s.av] [] (fun o H => o = .ret (.bool s.valid) ∧ H = []) := by
  refine ACalls.small fun hsm => ?_
  simp only [S.av, smallL, AV.small, List.length_map, maxLen] at hsm
  refine ACalls.up ?_
  refine ACalls.intro (cs := [22, 24, 29]) (n := 190) Tryz.func68 rfl rfl rfl (by kernel_rfl) rfl ?_
  generalize hpost : (fun o H => o = Out.ret (AV.bool s.valid) ∧ H = []) = post
  have fin : ∀ (b : Bool) (H : Heap), b = s.valid → Up 0 post (.ret (.bool b)) H := fun b H e => by
    subst hpost
    exact up_bool ⟨by rw [e], rfl⟩
  simp only [go_sem,S.av,List.length_map]
  refine gD_dec (fun hg => ?_) (fun hg => ?_) <;> simp only [go_sem,hg,List.length_map]
  · exact fin _ _ (by rw [S.valid, if_pos (by omega)])
  refine gD_dec (fun hg => ?_) (fun hg => ?_) <;> simp only [go_sem,hg,List.length_map]
  · exact fin _ _ (by rw [S.valid, if_pos (by omega)])
  refine gD_dec (fun hg => ?_) (fun hg => ?_) <;> simp only [go_sem,hg,List.length_map]
  · exact fin _ _ (by rw [S.valid, if_pos (by omega)])
  refine gD_dec (fun hg => ?_) (fun hg => ?_) <;> simp only [go_sem,hg,List.length_map]
  · exact fin _ _ (by rw [S.valid, if_pos (by omega)])
  refine condD_dec (fun hg => ?_) (fun hg => ?_) <;> simp only [go_sem,hg,List.length_map]
  · exact fin _ _ (by rw [S.valid, if_pos (by omega)])
  have hv : s.valid = s.mid (s.scanT s.thr 0 0) := by
    rw [S.valid, if_neg (by omega)]
    rfl
  have hb0 : ∀ b ∈ [Blk.rows 3 [[.view false 3 (s.cpus.map Q.row), .view false 3 (s.thr.map T.row), iv s.quantum]]], b.lt 1 := by
    simp [Blk.lt, ltL, AV.lt]
  refine loop_fam (fun x : Nat × Int × Int => (((((Ch.nil.put 1 (.ptr 0 0 0)).put 3 (iv x.2.1)).put 4 (iv x.2.2)).put 40 (.view false 3 (s.thr.map T.row))).put 41 (iv s.thr.length)).put 42 (iv x.1))
    (fun _ => [.rows 3 [[.view false 3 (s.cpus.map Q.row), .view false 3 (s.thr.map T.row), iv s.quantum]]]) (fun x => s.thr.length - x.1) (fun x => x.1 ≤ s.thr.length ∧ (0 ≤ x.2.1 ∧ x.2.1 ≤ x.1) ∧ (0 ≤ x.2.2 ∧ x.2.2 ≤ x.1) ∧ s.valid = s.mid (s.scanT (s.thr.drop x.1) x.2.1 x.2.2)) (0, 0, 0) (by kernel_rfl)
    ⟨Nat.zero_le _, by simp, by simp, by simpa using hv⟩ (Wk.slots' rfl (by simp [wkS, Ch.get])) ?_
  rintro ⟨i, a, b⟩ ⟨hi, ha, hb, hx⟩ K hK
  simp only at hi ha hb hx
  simp only [go_sem]
  refine condD_dec (fun hc => ?_) (fun hc => ?_)
  · have hc' : i < s.thr.length := by omega
    obtain ⟨t, ht⟩ := at_lt hc'
    have e1 : iw .i64 ((i : Int) + 1) = ((i + 1 : Nat) : Int) := by rw [iw64] <;> omega
    have e2 : iw .i64 (a + 1) = a + 1 := by rw [iw64] <;> omega
    have e3 : iw .i64 (b + 1) = b + 1 := by rw [iw64] <;> omega
    rw [drop_at ht, S.scanT] at hx
    have bad : s.badT t = true → false = s.valid := fun h => by rw [hx, if_pos h]; rfl
    simp only [go_sem,List.length_map,List.getElem?_map,ht,hc,hc',Int.natCast_nonneg,T.row]
    refine gD_dec (fun hg => ?_) (fun hg => ?_) <;> simp only [go_sem,hg,List.length_map,List.getElem?_map,ht,hc,hc',Int.natCast_nonneg,T.row]
    · exact fin _ _ (bad (by simp [S.badT, hg]))
    refine gD_dec (fun hg => ?_) (fun hg => ?_) <;> simp only [go_sem,hg,List.length_map,List.getElem?_map,ht,hc,hc',Int.natCast_nonneg,T.row]
    · exact fin _ _ (bad (by simp [S.badT, hg]))
    refine gD_dec (fun hg => ?_) (fun hg => ?_) <;> simp only [go_sem,hg,List.length_map,List.getElem?_map,ht,hc,hc',Int.natCast_nonneg,T.row]
    · exact fin _ _ (bad (by simp [S.badT, hg]))
    refine gD_dec (fun hg => ?_) (fun hg => ?_) <;> simp only [go_sem,hg,List.length_map,List.getElem?_map,ht,hc,hc',Int.natCast_nonneg,T.row]
    · exact fin _ _ (bad (by simp [S.badT]; omega))
    refine gD_dec (fun hg => ?_) (fun hg => ?_) <;> simp only [go_sem,hg,List.length_map,List.getElem?_map,ht,hc,hc',Int.natCast_nonneg,T.row]
    · exact fin _ _ (bad (by simp [S.badT, hg]))
    refine condD_dec (fun hg => ?_) (fun hg => ?_) <;> simp only [go_sem,hg,List.length_map,List.getElem?_map,ht,hc,hc',Int.natCast_nonneg,T.row]
    · exact fin _ _ (bad (by simp [S.badT, hg]))
    rw [if_neg (by simp [S.badT]; omega)] at hx
    refine condD_dec (fun hg => ?_) (fun hg => ?_) <;> simp only [go_sem,hg,e1,e2,e3]
    · rw [if_pos hg] at hx
      refine hK (i + 1, a + 1, b) _ _ ⟨hc', ⟨by dsimp only; omega, by dsimp only; omega⟩, ⟨by dsimp only; omega, by dsimp only; omega⟩, hx⟩ (by simp; omega) (Wk.drop (m := 1) (by simp [wkS, Ch.get]) (by decide) (by simp) (by simp [chLt, AV.lt]) rfl hb0)
    · rw [if_neg hg] at hx
      refine condD_dec (fun hg => ?_) (fun hg => ?_) <;> simp only [go_sem,hg,e1,e2,e3]
      · rw [if_pos hg] at hx
        refine hK (i + 1, a, b + 1) _ _ ⟨hc', ⟨by dsimp only; omega, by dsimp only; omega⟩, ⟨by dsimp only; omega, by dsimp only; omega⟩, hx⟩ (by simp; omega) (Wk.drop (m := 1) (by simp [wkS, Ch.get]) (by decide) (by simp) (by simp [chLt, AV.lt]) rfl hb0)
      · rw [if_neg hg] at hx
        refine hK (i + 1, a, b) _ _ ⟨hc', ⟨by dsimp only; omega, by dsimp only; omega⟩, ⟨by dsimp only; omega, by dsimp only; omega⟩, hx⟩ (by simp; omega) (Wk.drop (m := 1) (by simp [wkS, Ch.get]) (by decide) (by simp) (by simp [chLt, AV.lt]) rfl hb0)
  · simp only [go_sem]
    have : s.thr.drop i = [] := by simp; omega
    rw [this, S.scanT, S.mid] at hx
    clear hK
    refine loop_fam (fun x : Nat × List Int × Int × Int => (((((((Ch.nil.put 1 (.ptr 0 0 0)).put 3 (iv x.2.2.1)).put 4 (iv x.2.2.2)).put 7 (.func (.func 92) [] [.ptr 0 0 0])).put 8 (.map 1)).put 91 (.view false 3 (s.cpus.map Q.row))).put 92 (iv s.cpus.length)).put 93 (iv x.1))
      (fun x => [.rows 3 [[.view false 3 (s.cpus.map Q.row), .view false 3 (s.thr.map T.row), iv s.quantum]], .amap (x.2.1.map seenE)]) (fun x => s.cpus.length - x.1)
      (fun x => x.1 ≤ s.cpus.length ∧ x.2.1.Nodup ∧ (∀ y ∈ x.2.1, 0 ≤ y ∧ y < s.thr.length) ∧ (x.2.2.1 + x.2.1.length = a) ∧ (b - x.1 ≤ x.2.2.2 ∧ x.2.2.2 ≤ b) ∧ s.valid = s.scanQ x.1 (s.cpus.drop x.1) x.2.1 x.2.2.1 x.2.2.2) (0, [], a, b) (by kernel_rfl)
      ⟨Nat.zero_le _, by simp, by simp, by simp, by simp, by simpa using hx⟩ (Wk.slots' (by simp) (by simp [wkS, Ch.get, List.length_map])) ?_
    rintro ⟨c, seen, a', b'⟩ ⟨hci, hnd, hse, ha', hb', hy⟩ K hK
    simp only at hci hnd hse ha' hb' hy
    simp only [go_sem]
    refine condD_dec (fun hc => ?_) (fun hc => ?_)
    · have hc' : c < s.cpus.length := by omega
      obtain ⟨q, hq⟩ := at_lt hc'
      have e1 : iw .i64 ((c : Int) + 1) = ((c + 1 : Nat) : Int) := by rw [iw64] <;> omega
      have e2 : iw .i64 (b' - 1) = b' - 1 := by rw [iw64] <;> omega
      rw [drop_at hq, S.scanQ] at hy
      have bad : s.badQ c q = true → false = s.valid := fun h => by rw [hy, if_pos h]
      simp only [go_sem,List.length_map,List.getElem?_map,hq,hc,hc',Int.natCast_nonneg,Q.row]
      generalize hb2 : (if q.run = -1 then b' else b' - 1) = b2 at hy
      have hb2b : b - (c + 1 : Nat) ≤ b2 ∧ b2 ≤ b := by split at hb2 <;> omega
      have base1 : ∃ st : Ch, st = ((((((((((Ch.nil.put 1 (.ptr 0 0 0)).put 3 (iv a')).put 4 (iv b')).put 7 (.func (.func 92) [] [.ptr 0 0 0])).put 8 (.map 1)).put 91 (.view false 3 (s.cpus.map Q.row))).put 92 (iv s.cpus.length)).put 93 (iv c)).put 9 (iv c)).put 10 (.ptr 2 0 0)) := ⟨_, rfl⟩
      obtain ⟨st1, hst1⟩ := base1
      obtain ⟨hp1, hhp1⟩ : ∃ hp : Heap, hp = [.rows 3 [[.view false 3 (s.cpus.map Q.row), .view false 3 (s.thr.map T.row), iv s.quantum]], .amap (seen.map seenE), .rows 3 [[iv q.run, iv q.left, .view false 1 (q.ready.map r1)]]] := ⟨_, rfl⟩
      refine seq_cut (fun _ : Unit => st1) (fun _ => hp1) (fun _ => s.badQ c q = false) (by kernel_rfl) (fun K1 hK1 => ?_) (fun _ hnb => ?_)
      · have leaf : ∀ st', s.badQ c q = false → wkS st1 st' → K1 st' hp1 := fun st' h1 h2 => hK1 () _ _ h1 (Wk.slots h2)
        rw [hhp1, hst1] at leaf
        simp only [go_sem]
        refine gD_dec (fun hr => ?_) (fun hr => ?_)
        · simp only [go_sem,hr]
          refine gD_dec (fun hg => ?_) (fun hg => ?_) <;> simp only [go_sem,hg]
          · exact fin _ _ (bad (by simp [S.badQ, hr, hg]))
          · rw [hr] at leaf
            refine leaf _ (by simp [S.badQ, hr]; omega) (by simp [wkS, Ch.get])
        · simp only [go_sem,hr]
          refine rK_use (Go.AM.enters_of Tryz.func92 rfl (by decide)) (is_c s q.run c 2 _) ?_
          simp only [go_sem]
          cases his : s.is q.run c 2
          · simp only [go_sem]
            exact fin _ _ (bad (by simp [S.badQ, hr, his]))
          · simp only [go_sem]
            refine gD_dec (fun hg => ?_) (fun hg => ?_) <;> simp only [go_sem,hg]
            · exact fin _ _ (bad (by simp [S.badQ, hr, hg]))
            · refine condD_dec (fun hg => ?_) (fun hg => ?_) <;> simp only [go_sem,hg]
              · exact fin _ _ (bad (by simp [S.badQ, hr, hg]))
              · exact leaf _ (by simp [S.badQ, hr, his]; omega) (by simp [wkS, Ch.get])
      · rw [hnb] at hy
        simp only [Bool.false_eq_true, if_false] at hy
        subst hst1 hhp1
        simp only [go_sem]
        refine seq_cut (fun _ : Unit => ((((((((((Ch.nil.put 1 (.ptr 0 0 0)).put 3 (iv a')).put 4 (iv b2)).put 7 (.func (.func 92) [] [.ptr 0 0 0])).put 8 (.map 1)).put 91 (.view false 3 (s.cpus.map Q.row))).put 92 (iv s.cpus.length)).put 93 (iv c)).put 9 (iv c)).put 10 (.ptr 2 0 0)))
          (fun _ => [.rows 3 [[.view false 3 (s.cpus.map Q.row), .view false 3 (s.thr.map T.row), iv s.quantum]], .amap (seen.map seenE), .rows 3 [[iv q.run, iv q.left, .view false 1 (q.ready.map r1)]]]) (fun _ => True) (by kernel_rfl) (fun K1 hK1 => ?_) (fun _ _ => ?_)
        · simp only [go_sem]
          refine condD_dec (fun hg => ?_) (fun hg => ?_) <;> simp only [go_sem,hg,e2]
          · rw [if_neg (by simpa using hg)] at hb2
            subst hb2
            exact hK1 () _ _ trivial (Wk.slots (by simp [wkS, Ch.get]))
          · rw [if_pos (by omega)] at hb2
            subst hb2
            exact hK1 () _ _ trivial (Wk.slots (by simp [wkS, Ch.get]))
        · simp only [go_sem]
          have hy' : s.valid = s.nx c (s.cpus.drop (c + 1)) (a' - q.ready.length) b2 (s.scanR c none q.ready seen) := by
            rw [hy]; cases s.scanR c none q.ready seen <;> rfl
          refine loop_fam (fun x : Nat × List Int => (((((((((((((Ch.nil.put 1 (.ptr 0 0 0)).put 3 (iv (a' - x.1))).put 4 (iv b2)).put 7 (.func (.func 92) [] [.ptr 0 0 0])).put 8 (.map 1)).put 91 (.view false 3 (s.cpus.map Q.row))).put 92 (iv s.cpus.length)).put 93 (iv c)).put 9 (iv c)).put 10 (.ptr 2 0 0)).put 137 (.view false 1 (q.ready.map r1))).put 138 (iv q.ready.length)).put 139 (iv x.1)))
            (fun x => [.rows 3 [[.view false 3 (s.cpus.map Q.row), .view false 3 (s.thr.map T.row), iv s.quantum]], .amap (x.2.map seenE), .rows 3 [[iv q.run, iv q.left, .view false 1 (q.ready.map r1)]]]) (fun x => q.ready.length - x.1)
            (fun x => x.1 ≤ q.ready.length ∧ x.2.Nodup ∧ (∀ y ∈ x.2, 0 ≤ y ∧ y < s.thr.length) ∧ x.2.length = seen.length + x.1 ∧ (∀ y, prevAt q.ready x.1 = some y → 0 ≤ y ∧ y < s.thr.length) ∧ s.valid = s.nx c (s.cpus.drop (c + 1)) (a' - q.ready.length) b2 (s.scanR c (prevAt q.ready x.1) (q.ready.drop x.1) x.2)) (0, seen) (by kernel_rfl)
            ⟨Nat.zero_le _, hnd, hse, rfl, by simp [prevAt], by simpa [prevAt] using hy'⟩ (Wk.slots' (by simp) (by simp [wkS, Ch.get, List.length_map])) ?_
          rintro ⟨j, sn2⟩ ⟨hj, hnd2, hse2, hln2, hpv, hz⟩ K2 hK2
          simp only at hj hnd2 hse2 hln2 hpv hz
          have hpg := pigeon _ sn2 hnd2 hse2
          simp only [go_sem]
          refine condD_dec (fun hd => ?_) (fun hd => ?_)
          · have hd' : j < q.ready.length := by omega
            obtain ⟨x, hx1⟩ := at_lt hd'
            simp only [go_sem,List.length_map,List.getElem?_map,hx1,hd,hd',Int.natCast_nonneg]
            rw [drop_at hx1, S.scanR] at hz
            refine seq_cut (fun _ : Unit => (((((((((((((((Ch.nil.put 1 (.ptr 0 0 0)).put 3 (iv (a' - j))).put 4 (iv b2)).put 7 (.func (.func 92) [] [.ptr 0 0 0])).put 8 (.map 1)).put 91 (.view false 3 (s.cpus.map Q.row))).put 92 (iv s.cpus.length)).put 93 (iv c)).put 9 (iv c)).put 10 (.ptr 2 0 0)).put 137 (.view false 1 (q.ready.map r1))).put 138 (iv q.ready.length)).put 139 (iv j))).put 11 (iv j)).put 12 (iv x))
              (fun _ => [.rows 3 [[.view false 3 (s.cpus.map Q.row), .view false 3 (s.thr.map T.row), iv s.quantum]], .amap (sn2.map seenE), .rows 3 [[iv q.run, iv q.left, .view false 1 (q.ready.map r1)]]]) (fun _ => s.is x c 1 = true ∧ x ∉ sn2 ∧ s.up (prevAt q.ready j) x = false) (by kernel_rfl) (fun K3 hK3 => ?_) (fun _ hok => ?_)
            · have bad3 : s.is x c 1 = false ∨ x ∈ sn2 ∨ s.up (prevAt q.ready j) x = true → false = s.valid := fun h => by rw [hz, if_pos h]; rfl
              obtain ⟨o, ho1, ho2, ho3⟩ := mfind_seen x sn2 0
              simp only [go_sem]
              refine draw [.qu 0 0, .qu 0 0, .qu 0 0, .mn 0, .qu 1 1, .qu 1 1, .qu 1 1, .qu 1 1, .qu 1 1, .qu 1 1, .qu 1 1, .qu 1 1, .qu 1 1, .qu 1 1, .qu 1 1, .qu 1 1, .qu 1 1, .qu 1 1, .qu 1 1, .qu 1 1, .qu 1 1, .qu 1 1, .qu 1 1, .qu 1 1, .qu 1 1, .qu 1 1, .qu 1 1, .qu 1 1, .qu 1 1, .qu 1 1, .qu 1 1, .qu 1 1, .qu 1 1, .qu 1 1] (by kernel_rfl) (by kernel_rfl) ?_
              simp only [go_sem]
              refine dM_call (Go.AM.enters_of Tryz.func92 rfl (by decide)) (is_c s x c 1 _) ?_
              simp only [go_sem]
              cases his : s.is x c 1
              · simp only [go_sem]
                exact fin _ _ (bad3 (.inl his))
              · by_cases hsn : x ∈ sn2
                · obtain ⟨k, hk⟩ := ho2 hsn
                  rw [hk] at ho1
                  simp only [go_sem,ho1,mEnts,aLookupE,keyAV,lookRes,S.row]
                  exact fin _ _ (bad3 (.inr (.inl hsn)))
                · rw [ho3 hsn] at ho1
                  simp only [go_sem,ho1,mEnts,aLookupE,keyAV,lookRes,S.row]
                  refine dG_dec (fun hj0 => ?_) (fun hj0 => ?_)
                  · obtain ⟨y, hy2⟩ : ∃ y, q.ready[j - 1]? = some y := at_lt (by omega)
                    have hpj : prevAt q.ready j = some y := by rw [prevAt, if_neg (by omega), hy2]
                    have hy3 := hpv y hpj
                    have hx0 : 0 ≤ x ∧ x < s.thr.length := S.is_lt his
                    obtain ⟨tx, htx⟩ : ∃ y, s.thr[x.toNat]? = some y := at_lt (by omega)
                    obtain ⟨ty, hty⟩ : ∃ z, s.thr[y.toNat]? = some z := at_lt (by omega)
                    have hxl : x.toNat < s.thr.length := by omega
                    have hyl : y.toNat < s.thr.length := by omega
                    have e3 : iw .i64 ((j : Int) - 1) = ((j - 1 : Nat) : Int) := by rw [iw64] <;> omega
                    have hj1 : ((j - 1 : Nat) : Int) < q.ready.length := by omega
                    have hj2 : j - 1 < q.ready.length := by omega
                    simp only [go_sem,hj0,e3,hj1,hj2,List.length_map,List.getElem?_map,hy2,hy3,hx0,htx,hty,hxl,hyl,T.row,Int.natCast_nonneg]
                    have hup : s.up (prevAt q.ready j) x = decide (ty.pri < tx.pri) := by simp [hpj, S.up, S.pri, htx, hty]
                    refine condD_dec (fun hg => ?_) (fun hg => ?_) <;> simp only [go_sem,hg]
                    · exact fin _ _ (bad3 (.inr (.inr (by simp [hup, hg]))))
                    · exact hK3 () _ _ ⟨his, hsn, by simp [hup, hg]⟩ (Wk.slots (by simp [wkS, Ch.get]))
                  · simp only [go_sem,hj0]
                    have hj00 : j = 0 := by omega
                    exact hK3 () _ _ ⟨his, hsn, by simp [prevAt, hj00, S.up]⟩ (Wk.slots (by simp [wkS, Ch.get]))
            · obtain ⟨o, ho1, ho2, ho3⟩ := mfind_seen x sn2 0
              rw [ho3 hok.2.1] at ho1
              have hx0 : 0 ≤ x ∧ x < s.thr.length := S.is_lt hok.1
              have hnd3 : (sn2 ++ [x]).Nodup := by
                rw [List.nodup_append]
                exact ⟨hnd2, by simp, fun a ha b hb e => hok.2.1 (by simp at hb; subst hb; exact e ▸ ha)⟩
              have hse3 : ∀ y ∈ sn2 ++ [x], 0 ≤ y ∧ y < s.thr.length := fun y hy => by
                rcases List.mem_append.1 hy with h | h
                · exact hse2 y h
                · simp at h; subst h; exact hx0
              have hpg3 := pigeon _ _ hnd3 hse3
              rw [List.length_append, List.length_singleton] at hpg3
              have e3 : iw .i64 (a' - j - 1) = a' - ((j + 1 : Nat) : Int) := by rw [iw64] <;> omega
              have e4 : iw .i64 ((j : Int) + 1) = ((j + 1 : Nat) : Int) := by rw [iw64] <;> omega
              simp only [go_sem,ho1,aMapUpdE,aMapUpdB,keyAV,e3,e4]
              rw [if_neg (by simp [hok])] at hz
              have hp1 : prevAt q.ready (j + 1) = some x := by simp [prevAt, hx1]
              refine hK2 (j + 1, sn2 ++ [x]) _ _ ⟨hd', hnd3, hse3, by simp; omega, fun y hy => ?_, by rw [hp1]; exact hz⟩ (by simp; omega) (Wk.slots' (by simp [seenE]) (by simp [wkS, Ch.get]))
              rw [hp1] at hy
              cases hy
              exact hx0
          · have e3 : q.ready.drop j = [] := by simp; omega
            have e4 : j = q.ready.length := by omega
            rw [e3, S.scanR, S.nx] at hz
            simp only [go_sem,e1]
            refine hK (c + 1, sn2, a' - j, b2) _ _ ⟨hc', hnd2, hse2, by dsimp only; omega, hb2b, by rw [e4]; exact hz⟩ (by simp; omega) (Wk.drop (m := 2) (by simp [wkS, Ch.get]) (by decide) (by simp) (by simp [chLt, AV.lt, ltL]) rfl ?_)
            simp only [List.forall_mem_cons]
            refine ⟨?_, ?_, by simp⟩
            · simp [Blk.lt, ltL, AV.lt]
            · intro e he
              obtain ⟨x, _, rfl⟩ := List.mem_map.1 he
              rfl
    · simp only [go_sem]
      have : s.cpus.drop c = [] := by simp; omega
      rw [this, S.scanQ] at hy
      refine gD_dec (fun hg => ?_) (fun hg => ?_) <;> simp only [go_sem,hg]
      · exact fin _ _ (by rw [hy]; simp [hg])
      · exact fin _ _ (by rw [hy]; simp [hg])
end Go.Proofs.YtigmnlnomhjecaaGreatDoor
set_option maxRecDepth 100000
set_option linter.unusedVariables false
set_option linter.unusedSimpArgs false
namespace Go.Proofs.YtigmnlnomhjecaaGreatDoor
open Go.AM
def S.zero : S := ⟨[], [], 0⟩
theorem do_res : Tryz.f80.results.toList = [.cell 4 39, .cell 5 49] := rfl
theorem zero_le : LeV (.agg [.view true 0 [], .view true 0 [], iv 0]) S.zero.av :=
  .agg (.cons (.nil _ _ _ _ (by simp)) (.cons (.nil _ _ _ _ (by simp)) (.cons (.refl _) .nil)))
structure S.Fit (s : S) : Prop where
  c : s.cpus.length ≤ 4
  t : s.thr.length ≤ 16
  r : ∀ q ∈ s.cpus, q.ready.length ≤ 1000
theorem bfz_T (l : List T) (r sz : Nat) (ys : List (List AV)) : Blk.fz r sz ys (.rows 3 (l.map T.row)) = .rows 3 (l.map T.row) := bfz_pure (T.rows_lt l 0)
theorem bok_dead (r n : Nat) : Blk.fzOk r n .dead = True := rfl
theorem bok_T (l : List T) (r n : Nat) : Blk.fzOk r n (.rows 3 (l.map T.row)) := bfzOk_pure (T.rows_lt l 0)
theorem bfz_1 {x : AV} (hx : ∀ m, x.lt m = true) (r sz : Nat) (ys : List (List AV)) : Blk.fz r sz ys (.rows 1 [[x]]) = .rows 1 [[x]] := bfz_pure (by simp [ltL, hx])
theorem bok_1 {x : AV} (hx : ∀ m, x.lt m = true) (r n : Nat) : Blk.fzOk r n (.rows 1 [[x]]) := bfzOk_pure (by simp [ltL, hx])
theorem Q.rows_pure (l : List Q) : ∀ row ∈ l.map Q.row, ∀ x ∈ row, x.pure = true := by
  intro row hr x hx
  obtain ⟨q, _, rfl⟩ := List.mem_map.1 hr
  simp [Q.row] at hx
  rcases hx with rfl | rfl | rfl <;> rfl
theorem T.rows_pure (l : List T) : ∀ row ∈ l.map T.row, ∀ x ∈ row, x.pure = true := by
  intro row hr x hx
  obtain ⟨q, _, rfl⟩ := List.mem_map.1 hr
  simp [T.row] at hx
  rcases hx with rfl | rfl | rfl <;> rfl
theorem do_n3 (s : S) (g : FuncId) (sx0 x1 x2 : AV) (hx0 : ∀ m, sx0.lt m = true) (hx1 : ∀ m, x1.lt m = true) (hx2 : ∀ m, x2.lt m = true) (hv : s.valid = false) : ACalls Tryz.prog 80 [s.av, .func (.func g) [] [.ptr 0 0 0, .ptr 1 0 0, .ptr 2 0 0]] [.rows 1 [[sx0]], .rows 1 [[x1]], .rows 1 [[x2]]] (fun o H => o = .ret (.tuple [S.zero.av, iv 50]) ∧ H = [.rows 1 [[sx0]], .rows 1 [[x1]], .rows 1 [[x2]]]) := by
  refine ACalls.up ?_
  refine ACalls.introD (n := 23) Tryz.func80 rfl (by kernel_rfl) rfl ?_
  refine DWp.seq (by kernel_rfl) ?_
  generalize hpost : (fun (o : Out) (H : Heap) => o = Out.ret (.tuple [S.zero.av, iv 50]) ∧ H = [.rows 1 [[sx0]], .rows 1 [[x1]], .rows 1 [[x2]]]) = post
  simp only [go_sem,S.av]
  refine DWp.seq (by kernel_rfl) ?_
  simp only [go_sem]
  refine rK_use (Go.AM.enters_of Tryz.func68 rfl (by decide)) (ACalls.pure_use (valid_c s) rfl rfl) ?_
  simp only [go_sem,hv,do_res]
  subst hpost
  refine .gc 3 (Nat.le_refl _) (by simp) (by simp [Out.lt, AV.lt, ltL]) (by simp [Blk.lt, ltL, hx0, hx1, hx2]) (.le (.ret (.tuple (.cons zero_le (.cons (.refl _) .nil)))) (LeH.refl _) (.done ⟨rfl, rfl⟩))
theorem do_p3 (s : S) (e : Int) (g : FuncId) (sx0 x1 x2 y0 y1 y2 : AV) (hx0 : ∀ m, sx0.lt m = true) (hx1 : ∀ m, x1.lt m = true) (hx2 : ∀ m, x2.lt m = true) (hy0 : ∀ m, y0.lt m = true) (hy1 : ∀ m, y1.lt m = true) (hy2 : ∀ m, y2.lt m = true) (hv : s.valid = true) (hf : s.Fit) (hE : Enters Tryz.prog g)
    (hg : ACalls Tryz.prog g [.ptr 0 0 0, .ptr 3 0 0, .ptr 4 0 0, .ptr 5 0 0] (s.heap [.rows 1 [[sx0]], .rows 1 [[x1]], .rows 1 [[x2]]]) (fun o H => o = .pan (refuse e) ∧ H = [.dead, .dead, .dead, .rows 1 [[y0]], .rows 1 [[y1]], .rows 1 [[y2]]])) :
    ACalls Tryz.prog 80 [s.av, .func (.func g) [] [.ptr 0 0 0, .ptr 1 0 0, .ptr 2 0 0]] [.rows 1 [[sx0]], .rows 1 [[x1]], .rows 1 [[x2]]] (fun o H => o = .ret (.tuple [S.zero.av, iv e]) ∧ H = [.rows 1 [[y0]], .rows 1 [[y1]], .rows 1 [[y2]]]) := by
  refine ACalls.up ?_
  refine ACalls.introD (n := 23) Tryz.func80 rfl (by kernel_rfl) rfl ?_
  refine DWp.seq (by kernel_rfl) ?_
  generalize hpost : (fun (o : Out) (H : Heap) => o = Out.ret (.tuple [S.zero.av, iv e]) ∧ H = [.rows 1 [[y0]], .rows 1 [[y1]], .rows 1 [[y2]]]) = post
  simp only [go_sem,S.av]
  refine DWp.seq (by kernel_rfl) ?_
  simp only [go_sem]
  refine rK_use (Go.AM.enters_of Tryz.func68 rfl (by decide)) (ACalls.pure_use (valid_c s) rfl rfl) ?_
  simp only [go_sem,hv]
  refine DWp.defer (by kernel_rfl) rfl (by kernel_rfl) (by kernel_rfl) ?_
  simp only [go_sem]
  refine ⟨(Go.AM.enters_of Tryz.func101 rfl (by decide)), fun d => ?_⟩
  refine rK_use (Go.AM.enters_of Tryz.func102 rfl (by decide)) (clone_u s hf.c hf.t hf.r _ 6 rfl) ?_
  simp only [go_sem]
  refine rK_pans hE (hg.panE [12, 9, 11, 0, 1, 2] (refuse e) [.rows 1 [[y0]], .rows 1 [[y1]], .rows 1 [[y2]], .rows 3 [[.view false 3 (s.cpus.map Q.row), .view false 3 (s.thr.map T.row), iv s.quantum]], .rows 3 [[.view true 0 [], .view true 0 [], iv 0]], .rows 1 [[iv 0]],
    .rows 3 [[.sl 9 0 s.cpus.length none, .sl 11 0 s.thr.length none, iv s.quantum]], .rows 3 [[.sl 9 0 s.cpus.length none, .sl 11 0 s.thr.length none, iv s.quantum]], .dead, .dead, .dead, .dead, .dead]
    (by simp) rfl (by simp) ?_ (by simp [AV.ren, pi]) rfl ?_) ?_
  · simp only [S.heap, List.map_cons, List.map_nil, bren_Q, bren_T]
    simp [Blk.ren, AV.ren, pi, ren_pure (hx0 0), ren_pure (hx1 0), ren_pure (hx2 0)]
  · simp [patch, setMany, Blk.ren, ren_pure (hy0 0), ren_pure (hy1 0), ren_pure (hy2 0)]
  simp only [go_sem]
  refine ADef.intro (n := 14) Tryz.func101 rfl rfl (by kernel_rfl) rfl (by kernel_rfl) ?_
  simp only [go_sem,do_res,refuse]
  refine draw [.qu 0 0, .qu 0 1, .rd 0 1, .mn 0, .mn 1] (by kernel_rfl) (by kernel_rfl) ?_
  simp only [go_sem,do_res,refuse]
  subst hpost
  refine .gc 3 (Nat.le_refl _) (by simp) (by simp [Out.lt, AV.lt, ltL]) (by simp [Blk.lt, ltL, hy0, hy1, hy2]) (.le (.ret (.tuple (.cons zero_le (.cons (.refl _) .nil)))) (LeH.refl _) (.done ⟨rfl, rfl⟩))
end Go.Proofs.YtigmnlnomhjecaaGreatDoor
set_option maxRecDepth 100000
set_option linter.unusedVariables false
set_option linter.unusedSimpArgs false
namespace Go.Proofs.YtigmnlnomhjecaaGreatDoor
open Go.AM
theorem wuse {P : Program} {f : FuncId} {args : List AV} {s s' : S} {v : AV} {R : Heap} (hc : ACalls P f args (s.heap []) fun o H => o = .ret v ∧ H = s'.heap []) (ha : ltL 3 args = true) (hv : v.lt 3 = true) :
    ACalls P f args (s.heap R) fun o H => o = .ret v ∧ H = s'.heap R :=
  ACalls.frame (H0 := s.heap []) (H0' := s'.heap []) (R := R) hc ha hv s.heap_lt s'.heap_lt rfl
theorem wpan {P : Program} {f : FuncId} {args : List AV} {s s' : S} {v : AV} {R : Heap} (hc : ACalls P f args (s.heap []) fun o H => o = .pan v ∧ H = s'.heap []) (ha : ltL 3 args = true) (hv : v.lt 3 = true) :
    ACalls P f args (s.heap R) fun o H => o = .pan v ∧ H = s'.heap R :=
  ACalls.framep (H0 := s.heap []) (H0' := s'.heap []) (R := R) hc ha hv s.heap_lt s'.heap_lt rfl
structure S.Ok (s : S) : Prop where
  c1 : 1 ≤ s.cpus.length
  c4 : s.cpus.length ≤ 4
  t16 : s.thr.length ≤ 16
  q1 : 1 ≤ s.quantum
  q20 : s.quantum ≤ 20
  thr : ∀ t ∈ s.thr, 0 ≤ t.pri ∧ t.pri ≤ 7 ∧ 0 ≤ t.cpu ∧ t.cpu < s.cpus.length ∧ 1 ≤ t.st ∧ t.st ≤ 4
  run : ∀ (c : Nat) q, s.cpus[c]? = some q → (q.run = -1 ∧ q.left = 0) ∨ (s.is q.run c 2 = true ∧ 0 ≤ q.left ∧ q.left ≤ s.quantum)
  rdy : ∀ (c : Nat) q, s.cpus[c]? = some q → (∀ x ∈ q.ready, s.is x c 1 = true) ∧ q.ready.Nodup ∧ q.ready.Pairwise (fun x y => s.pri y ≤ s.pri x)
  allr : ∀ (i : Nat) t, s.thr[i]? = some t → t.st = 1 → ∃ q, s.cpus[t.cpu.toNat]? = some q ∧ (i : Int) ∈ q.ready
  allrun : ∀ (i : Nat) t, s.thr[i]? = some t → t.st = 2 → ∃ q, s.cpus[t.cpu.toNat]? = some q ∧ q.run = i
theorem S.Ok.fit {s : S} (h : s.Ok) : s.Fit where
  c := h.c4
  t := h.t16
  r := fun q hq => by
    obtain ⟨c, hc, e⟩ := List.getElem_of_mem hq
    have hr := h.rdy c q (by rw [List.getElem?_eq_getElem hc, e])
    have := pigeon s.thr.length q.ready hr.2.1 fun y hy => S.is_lt (hr.1 y hy)
    have := h.t16
    omega
theorem S.Ok.at {s : S} (h : s.Ok) {i : Nat} {t : T} (ht : s.thr[i]? = some t) : ∃ q, s.cpus[t.cpu.toNat]? = some q ∧ 0 ≤ t.cpu ∧ (∀ x ∈ q.ready, 0 ≤ x ∧ x < s.thr.length) ∧ q.ready.length ≤ 1000 := by
  have h1 := h.thr t (List.mem_of_getElem? ht)
  obtain ⟨q, hq⟩ : ∃ q, s.cpus[t.cpu.toNat]? = some q := at_lt (by omega)
  exact ⟨q, hq, h1.2.2.1, fun x hx => S.is_lt ((h.rdy _ q hq).1 x hx), h.fit.r q (List.mem_of_getElem? hq)⟩
theorem Up.drop {s : S} {R H : Heap} {v : AV} {m : Nat} {Q : CQ} (hm : m = 3 + R.length) (hR : ∀ b ∈ R, b.lt 0) (hv : v.lt 0 = true) (hl : m ≤ H.length) (he : H.take m = s.heap R) (hq : Q (.ret v) (s.heap R)) : Up m Q (.ret v) H := by
  subst hm
  refine .gc (3 + R.length) (Nat.le_refl _) hl ?_ ?_ (.done (by rw [he]; exact hq))
  · exact lt_le (Nat.zero_le _) hv
  · rw [he]
    intro b hb
    have : s.heap R = s.heap [] ++ R := rfl
    rw [this] at hb
    rcases List.mem_append.1 hb with h | h
    · exact blt_le (by omega) (s.heap_lt b h)
    · exact blt_le (Nat.zero_le _) (hR b h)
def S.cp (s : S) (n : Int) : Option Q := if 0 ≤ n then s.cpus[n.toNat]? else none
theorem S.cp_some {s : S} {n : Int} {q : Q} (h : s.cp n = some q) : ∃ i : Nat, n = i ∧ s.cpus[i]? = some q := by
  unfold S.cp at h
  split at h
  · exact ⟨n.toNat, by omega, h⟩
  · cases h
theorem S.cp_none {s : S} {n : Int} (h : s.cp n = none) : ¬ (0 ≤ n ∧ n < s.cpus.length) := by
  unfold S.cp at h
  split at h
  · rw [List.getElem?_eq_none_iff] at h; omega
  · omega
theorem cpu_ok (s : S) (c : Nat) (q : Q) (hq : s.cpus[c]? = some q) : ACalls Tryz.prog 82 [.ptr 0 0 0, iv c] (s.heap []) (fun o H => o = .ret (.ptr 1 c 0) ∧ H = s.heap []) := by
  have := (List.getElem?_eq_some_iff.1 hq).1
  have h := cpu_c s c
  rw [if_pos (by omega)] at h
  exact h
theorem cpu_no (s : S) (n : Int) (hn : ¬ (0 ≤ n ∧ n < s.cpus.length)) : ACalls Tryz.prog 82 [.ptr 0 0 0, iv n] (s.heap []) (fun o H => o = .pan (refuse 52) ∧ H = s.heap []) := by
  have h := cpu_c s n
  rw [if_neg hn] at h
  exact h
theorem Up.dropp {a b c : Blk} {R rest H : Heap} {e : Int} {m : Nat} {Q : CQ} (hm : m = 3 + R.length) (hR : ∀ b ∈ R, b.lt 0) (he : H = a :: b :: c :: (R ++ rest)) (hq : Q (.pan (refuse e)) (.dead :: .dead :: .dead :: R)) : Up m Q (.pan (refuse e)) H := by
  subst hm he
  refine Up.kill [0, 1, 2] _ ?_
  simp only [kill, List.set_cons_zero, List.set_cons_succ]
  have he : List.take (3 + R.length) (Blk.dead :: Blk.dead :: Blk.dead :: (R ++ rest)) = .dead :: .dead :: .dead :: R := by
    rw [Nat.add_comm]; simp
  refine .gc (3 + R.length) (Nat.le_refl _) (by simp; omega) ?_ ?_ (.done (by rw [he]; exact hq))
  · simp [Out.lt, refuse, AV.lt, ltL]
  · rw [he]
    intro b hb
    simp only [List.mem_cons] at hb
    rcases hb with rfl | rfl | rfl | h
    · trivial
    · trivial
    · trivial
    · exact blt_le (Nat.zero_le _) (hR b h)
end Go.Proofs.YtigmnlnomhjecaaGreatDoor
set_option maxRecDepth 100000
set_option linter.unusedVariables false
set_option linter.unusedSimpArgs false
namespace Go.Proofs.YtigmnlnomhjecaaGreatDoor
open Go.AM
theorem S.Ok.due_h {s : S} (h : s.Ok) {c : Nat} {q : Q} (hq : s.cpus[c]? = some q) : (∀ x ∈ q.ready, 0 ≤ x ∧ x < s.thr.length) ∧ (q.run = -1 ∨ 0 ≤ q.run ∧ q.run < s.thr.length) :=
  ⟨fun x hx => S.is_lt ((h.rdy c q hq).1 x hx), (h.run c q hq).imp (fun h => h.1) fun h => S.is_lt h.1⟩
end Go.Proofs.YtigmnlnomhjecaaGreatDoor
set_option maxRecDepth 100000
set_option linter.unusedVariables false
set_option linter.unusedSimpArgs false
namespace Go.Proofs.YtigmnlnomhjecaaGreatDoor
open Go.AM
theorem S.put_eq {s : S} {i : Nat} {front : Bool} {t : T} {q : Q} (ht : s.thr[i]? = some t) (hq : s.cpus[t.cpu.toNat]? = some q) :
    s.put i front = { s with thr := s.thr.set i { t with st := 1 }, cpus := s.cpus.set t.cpu.toNat { q with ready := ins q.ready (idxF (s.below t.pri front) q.ready 0) i } } := by simp only [S.put, ht, hq]
end Go.Proofs.YtigmnlnomhjecaaGreatDoor
set_option maxRecDepth 100000
set_option linter.unusedVariables false
set_option linter.unusedSimpArgs false
namespace Go.Proofs.YtigmnlnomhjecaaGreatDoor
open Go.AM
def fullF : List Q → Nat → Nat → Int → Nat
  | [], _, b, _ => b
  | q :: l, i, b, bl => if q.load > bl then fullF l (i + 1) i q.load else fullF l (i + 1) b bl
def S.loadOf (s : S) (c : Nat) : Int := match s.cpus[c]? with
  | some q => q.load
  | none => 0
def S.full (s : S) : Nat := fullF s.cpus 0 0 (s.loadOf 0)
end Go.Proofs.YtigmnlnomhjecaaGreatDoor
set_option maxRecDepth 100000
set_option linter.unusedVariables false
set_option linter.unusedSimpArgs false
namespace Go.Proofs.YtigmnlnomhjecaaGreatDoor
open Go.AM
def S.more (s : S) (p c : Int) : S := { s with thr := s.thr ++ [⟨p, c, 0⟩] }
def S.eAdd (s : S) (p c : Int) : Option S := match s.cp c with
  | some _ => if (0 ≤ p ∧ p ≤ 7) ∧ s.thr.length < 16 then some ((s.more p c).put s.thr.length false) else none
  | none => none
def S.rAdd (s : S) (p c : Int) : Int := match s.cp c with
  | some _ => if 0 ≤ p ∧ p ≤ 7 then 2 else 1
  | none => 52
theorem Add_pan (s : S) (h : s.Ok) (p c : Int) (hn : s.eAdd p c = none) : ACalls Tryz.prog 81 [.ptr 0 0 0, .ptr 3 0 0, .ptr 4 0 0, .ptr 5 0 0] (s.heap [.rows 1 [[iv c]], .rows 1 [[iv p]], .rows 1 [[iv 0]]])
    (fun o H => o = .pan (refuse (s.rAdd p c)) ∧ H = [.dead, .dead, .dead, .rows 1 [[iv c]], .rows 1 [[iv p]], .rows 1 [[iv 0]]]) := by
  have hR : ∀ b ∈ [Blk.rows 1 [[iv c]], .rows 1 [[iv p]], .rows 1 [[iv 0]]], b.lt 0 := by simp [Blk.lt, ltL, AV.lt]
  unfold S.eAdd at hn
  unfold S.rAdd
  refine ACalls.up ?_
  refine ACalls.intro (cs := []) (n := 42) Tryz.func81 rfl rfl rfl (by kernel_rfl) rfl ?_
  generalize hpost : (fun (o : Out) (H : Heap) => o = Out.pan (refuse _) ∧ _) = post
  simp only [go_sem,S.heap]
  cases hqc : s.cp c with
  | none =>
    rw [hqc] at hpost
    refine rK_pans (Go.AM.enters_of Tryz.func82 rfl (by decide)) (wpan (R := [.rows 1 [[iv c]], .rows 1 [[iv p]], .rows 1 [[iv 0]]]) (cpu_no s c (S.cp_none hqc)) (by simp [ltL, AV.lt]) rfl) ?_
    simp only [go_sem]
    subst hpost
    exact Up.dropp (R := [.rows 1 [[iv c]], .rows 1 [[iv p]], .rows 1 [[iv 0]]]) (rest := []) rfl hR rfl ⟨rfl, rfl⟩
  | some q =>
    rw [hqc] at hpost hn
    simp only at hpost hn
    obtain ⟨i, rfl, hq⟩ := S.cp_some hqc
    refine rK_use (Go.AM.enters_of Tryz.func82 rfl (by decide)) (wuse (R := [.rows 1 [[iv i]], .rows 1 [[iv p]], .rows 1 [[iv 0]]]) (cpu_ok s i q hq) (by simp [ltL, AV.lt]) rfl) ?_
    simp only [go_sem,S.heap]
    refine rK_use (Go.AM.enters_of Tryz.func84 rfl (by decide)) (ACalls.pure_use (isPri_c p) rfl rfl) ?_
    by_cases hp : 0 ≤ p ∧ p ≤ 7
    · rw [if_pos hp] at hpost
      have hl : ¬ (s.thr.length : Int) < 16 := by
        intro hl
        rw [if_pos ⟨hp, by omega⟩] at hn
        cases hn
      simp only [go_sem,hp]
      refine rK_use (Go.AM.enters_of Tryz.func83 rfl (by decide)) (ACalls.pure_use (must_t _) rfl rfl) ?_
      simp only [go_sem,hl]
      refine rK_pans (Go.AM.enters_of Tryz.func83 rfl (by decide)) (ACalls.pure_pan (must_f _) rfl rfl) ?_
      simp only [go_sem]
      subst hpost
      exact Up.dropp (R := [.rows 1 [[iv i]], .rows 1 [[iv p]], .rows 1 [[iv 0]]]) (rest := []) rfl hR rfl ⟨rfl, rfl⟩
    · rw [if_neg hp] at hpost
      simp only [go_sem,hp]
      refine rK_pans (Go.AM.enters_of Tryz.func83 rfl (by decide)) (ACalls.pure_pan (must_f _) rfl rfl) ?_
      simp only [go_sem]
      subst hpost
      exact Up.dropp (R := [.rows 1 [[iv i]], .rows 1 [[iv p]], .rows 1 [[iv 0]]]) (rest := []) rfl hR rfl ⟨rfl, rfl⟩
theorem Add_ret (s : S) (h : s.Ok) (p : Int) (i : Nat) (q : Q) (hq : s.cpus[i]? = some q) (hp : 0 ≤ p ∧ p ≤ 7) (hl : s.thr.length < 16) (s' : S) (hs : s' = (s.more p i).put s.thr.length false) :
    ACalls Tryz.prog 81 [.ptr 0 0 0, .ptr 3 0 0, .ptr 4 0 0, .ptr 5 0 0] (s.heap [.rows 1 [[iv i]], .rows 1 [[iv p]], .rows 1 [[iv 0]]])
      (fun o H => o = .ret (.tuple []) ∧ H = [.rows 3 [[.sl 1 0 s'.cpus.length none, .sl 7 0 s'.thr.length none, iv s'.quantum]], .rows 3 (s'.cpus.map Q.row), .dead, .rows 1 [[iv i]], .rows 1 [[iv p]], .rows 1 [[iv s.thr.length]], .dead, .rows 3 (s'.thr.map T.row)]) := by
  have hl' : (s.thr.length : Int) < 16 := by omega
  refine ACalls.up ?_
  refine ACalls.intro (cs := []) (n := 42) Tryz.func81 rfl rfl rfl (by kernel_rfl) rfl ?_
  generalize hpost : (fun (o : Out) (H : Heap) => o = Out.ret (.tuple []) ∧ _) = post
  simp only [go_sem,S.heap]
  refine rK_use (Go.AM.enters_of Tryz.func82 rfl (by decide)) (wuse (R := [.rows 1 [[iv i]], .rows 1 [[iv p]], .rows 1 [[iv 0]]]) (cpu_ok s i q hq) (by simp [ltL, AV.lt]) rfl) ?_
  simp only [go_sem,S.heap]
  refine rK_use (Go.AM.enters_of Tryz.func84 rfl (by decide)) (ACalls.pure_use (isPri_c p) rfl rfl) ?_
  simp only [go_sem,hp]
  refine rK_use (Go.AM.enters_of Tryz.func83 rfl (by decide)) (ACalls.pure_use (must_t _) rfl rfl) ?_
  simp only [go_sem,hl']
  refine rK_use (Go.AM.enters_of Tryz.func83 rfl (by decide)) (ACalls.pure_use (must_t _) rfl rfl) ?_
  simp only [go_sem]
  refine draw [.qu 0 2, .qu 0 1, .qu 0 1, .qu 0 1, .qu 0 1, .rd 0 1, .qu 0 0, .qu 0 0, .qu 0 0, .mn 0, .mn 1, .qu 2 2, .qu 2 2, .qu 2 2, .mn 2] (by kernel_rfl) (by kernel_rfl) ?_
  simp only [go_sem,List.length_map]
  refine ⟨by omega, ?_⟩
  have hmt : (s.thr.map T.row).take s.thr.length ++ [[iv p, iv i, iv 0]] = (s.more p i).thr.map T.row := by
    rw [List.take_of_length_le (by simp)]
    simp [S.more, T.row]
  rw [hmt]
  have e1 : (s.more p i).thr[s.thr.length]? = some ⟨p, i, 0⟩ := by simp [S.more]
  have e2 : (s.more p i).cpus[(i : Int).toNat]? = some q := hq
  have e3 : (s.more p i).thr.length = s.thr.length + 1 := by simp [S.more]
  have hput : s' = { s with thr := (s.more p i).thr.set s.thr.length ⟨p, i, 1⟩, cpus := s.cpus.set (i : Int).toNat { q with ready := ins q.ready (idxF ((s.more p i).below p false) q.ready 0) s.thr.length } } := by
    rw [hs, S.put_eq e1 e2]; rfl
  refine rK_use (Go.AM.enters_of Tryz.func85 rfl (by decide)) (ACalls.useE (put_c (s.more p i) s.thr.length false _ q e1 (by dsimp only; omega) e2 (fun x hx => by have := (h.due_h hq).1 x hx; rw [e3]; omega) (h.fit.r _ (List.mem_of_getElem? hq))) [0, 1, 7] (.tuple [])
    [.rows 3 [[.sl 1 0 s'.cpus.length none, .sl 7 0 s'.thr.length none, iv s'.quantum]], .rows 3 (s'.cpus.map Q.row), .dead, .rows 1 [[iv i]], .rows 1 [[iv p]], .rows 1 [[iv s.thr.length]], .rows 3 [[iv p, iv i, iv 0]], .rows 3 (s'.thr.map T.row)]
    (by simp) rfl (by simp) ?_ (by simp [AV.ren, pi]) rfl ?_) ?_
  · simp only [S.heap, List.map_cons, List.map_nil, bren_Q, bren_T]
    simp [Blk.ren, AV.ren, pi, S.more]
  · rw [← hs]
    simp only [S.heap, patch, List.map_cons, List.map_nil, bren_Q, bren_T]
    simp [setMany, Blk.ren, AV.ren, pi]
  simp only [go_sem]
  subst hpost
  exact .dead 6 (.done ⟨rfl, rfl⟩)
end Go.Proofs.YtigmnlnomhjecaaGreatDoor
set_option maxRecDepth 100000
set_option linter.unusedVariables false
set_option linter.unusedSimpArgs false
namespace Go.Proofs.YtigmnlnomhjecaaGreatDoor
open Go.AM
theorem do_add (s s' : S) (g : FuncId) (sx0 x1 x2 y0 y1 y2 : AV) (hx0 : ∀ m, sx0.lt m = true) (hx1 : ∀ m, x1.lt m = true) (hx2 : ∀ m, x2.lt m = true) (hy0 : ∀ m, y0.lt m = true) (hy1 : ∀ m, y1.lt m = true) (hy2 : ∀ m, y2.lt m = true) (hv : s.valid = true) (hf : s.Fit) (hE : Enters Tryz.prog g)
    (hg : ACalls Tryz.prog g [.ptr 0 0 0, .ptr 3 0 0, .ptr 4 0 0, .ptr 5 0 0] (s.heap [.rows 1 [[sx0]], .rows 1 [[x1]], .rows 1 [[x2]]]) (fun o H => o = .ret (.tuple []) ∧ H = [.rows 3 [[.sl 1 0 s'.cpus.length none, .sl 7 0 s'.thr.length none, iv s'.quantum]], .rows 3 (s'.cpus.map Q.row), .dead, .rows 1 [[y0]], .rows 1 [[y1]], .rows 1 [[y2]], .dead, .rows 3 (s'.thr.map T.row)])) :
    ACalls Tryz.prog 80 [s.av, .func (.func g) [] [.ptr 0 0 0, .ptr 1 0 0, .ptr 2 0 0]] [.rows 1 [[sx0]], .rows 1 [[x1]], .rows 1 [[x2]]] (fun o H => o = .ret (.tuple [s'.av, iv 0]) ∧ H = [.rows 1 [[y0]], .rows 1 [[y1]], .rows 1 [[y2]]]) := by
  refine ACalls.up ?_
  refine ACalls.introD (n := 23) Tryz.func80 rfl (by kernel_rfl) rfl ?_
  refine DWp.seq (by kernel_rfl) ?_
  generalize hpost : (fun (o : Out) (H : Heap) => o = Out.ret (.tuple [s'.av, iv 0]) ∧ H = [.rows 1 [[y0]], .rows 1 [[y1]], .rows 1 [[y2]]]) = post
  simp only [go_sem,S.av]
  refine DWp.seq (by kernel_rfl) ?_
  simp only [go_sem]
  refine rK_use (Go.AM.enters_of Tryz.func68 rfl (by decide)) (ACalls.pure_use (valid_c s) rfl rfl) ?_
  simp only [go_sem,hv]
  refine DWp.defer (by kernel_rfl) rfl (by kernel_rfl) (by kernel_rfl) ?_
  simp only [go_sem]
  refine ⟨(Go.AM.enters_of Tryz.func101 rfl (by decide)), fun d => ?_⟩
  refine rK_use (Go.AM.enters_of Tryz.func102 rfl (by decide)) (clone_u s hf.c hf.t hf.r _ 6 rfl) ?_
  simp only [go_sem]
  refine rK_use hE (hg.useE [12, 9, 11, 0, 1, 2] (.tuple []) [.rows 1 [[y0]], .rows 1 [[y1]], .rows 1 [[y2]], .rows 3 [[.view false 3 (s.cpus.map Q.row), .view false 3 (s.thr.map T.row), iv s.quantum]], .rows 3 [[.view true 0 [], .view true 0 [], iv 0]], .rows 1 [[iv 0]],
    .rows 3 [[.sl 9 0 s.cpus.length none, .sl 11 0 s.thr.length none, iv s.quantum]], .rows 3 [[.sl 9 0 s.cpus.length none, .sl 11 0 s.thr.length none, iv s.quantum]], .dead, .rows 3 (s'.cpus.map Q.row), .dead, .dead, .rows 3 [[.sl 9 0 s'.cpus.length none, .sl 14 0 s'.thr.length none, iv s'.quantum]], .dead, .rows 3 (s'.thr.map T.row)]
    (by simp) rfl (by simp) ?_ (by simp [AV.ren, pi]) rfl ?_) ?_
  · simp only [S.heap, List.map_cons, List.map_nil, bren_Q, bren_T]
    simp [Blk.ren, AV.ren, pi, ren_pure (hx0 0), ren_pure (hx1 0), ren_pure (hx2 0)]
  · simp only [S.heap, patch, List.length_cons, List.length_nil, List.drop_succ_cons, List.drop_zero, Nat.zero_add, Nat.reduceAdd, List.map_cons, List.map_nil, bren_Q, bren_T]
    simp [setMany, Blk.ren, AV.ren, pi, ren_pure (hy0 0), ren_pure (hy1 0), ren_pure (hy2 0)]
  simp only [go_sem]
  refine ADef.intro (n := 14) Tryz.func101 rfl rfl (by kernel_rfl) rfl (by kernel_rfl) ?_
  simp only [go_sem,do_res]
  subst hpost
  refine Up.kill [3, 4, 5, 6, 7, 12] _ ?_
  simp only [kill, List.set_cons_zero, List.set_cons_succ]
  refine .fz 9 3 (s'.cpus.map Q.row) rfl (Q.rows_pure _) (by simp [Out.fzOk, AV.fzOk, fzOkL]) ?_ ?_
  · simp only [List.set_cons_zero, List.set_cons_succ, List.forall_mem_cons, bok_T, bok_1 hy0, bok_1 hy1, bok_1 hy2, bok_dead, true_and, and_true, List.not_mem_nil, false_implies, implies_true]
  simp only [Out.fz, AV.fz, fzL, List.set_cons_zero, List.set_cons_succ, List.map_cons, List.map_nil, bfz_T, bfz_1 hy0, bfz_1 hy1, bfz_1 hy2]
  simp only [Blk.fz, if_true, if_false, List.drop_zero, Nat.reduceEqDiff, reduceIte]
  rw [List.take_of_length_le (by simp)]
  refine .fz 14 3 (s'.thr.map T.row) rfl (T.rows_pure _) (by simp [Out.fzOk, AV.fzOk, fzOkL]) ?_ ?_
  · simp only [List.set_cons_zero, List.set_cons_succ, List.forall_mem_cons, bok_T, bok_1 hy0, bok_1 hy1, bok_1 hy2, bok_dead, true_and, and_true, List.not_mem_nil, false_implies, implies_true]
  simp only [Out.fz, AV.fz, fzL, List.set_cons_zero, List.set_cons_succ, List.map_cons, List.map_nil, bfz_T, bfz_1 hy0, bfz_1 hy1, bfz_1 hy2]
  simp only [Blk.fz, if_true, if_false, List.drop_zero, Nat.reduceEqDiff, reduceIte]
  rw [List.take_of_length_le (by simp)]
  refine .gc 3 (Nat.le_refl _) (by simp) (by simp [Out.lt, AV.lt, ltL]) (by simp [Blk.lt, ltL, hy0, hy1, hy2]) (.done ⟨rfl, rfl⟩)
end Go.Proofs.YtigmnlnomhjecaaGreatDoor
set_option maxRecDepth 100000
set_option linter.unusedVariables false
set_option linter.unusedSimpArgs false
namespace Go.Proofs.YtigmnlnomhjecaaGreatDoor
open Go.AM
def cnt (k : Int) : List T → Int
  | [] => 0
  | t :: l => (if t.st = k then 1 else 0) + cnt k l
theorem scanT_eq (s : S) : ∀ (l : List T) (a b : Int), s.scanT l a b = if ∀ t ∈ l, s.badT t = false then some (a + cnt 1 l, b + cnt 2 l) else none
  | [], a, b => by simp [S.scanT, cnt]
  | t :: l, a, b => by
    rw [S.scanT]
    by_cases h : s.badT t = true
    · rw [if_pos h, if_neg (fun h' => by have := h' t (by simp); rw [h] at this; cases this)]
    · rw [if_neg h]
      have h' : s.badT t = false := by simpa using h
      have e : (∀ x ∈ t :: l, s.badT x = false) ↔ ∀ x ∈ l, s.badT x = false := by simp [h']
      by_cases h1 : t.st = 1
      · rw [if_pos h1, scanT_eq s l]
        simp only [e, cnt, h1]
        split <;> simp <;> omega
      · rw [if_neg h1]
        by_cases h2 : t.st = 2
        · rw [if_pos h2, scanT_eq s l]
          simp only [e, cnt, h2]
          split <;> simp <;> omega
        · rw [if_neg h2, scanT_eq s l]
          simp only [e, cnt, h1, h2]
          split <;> simp
def S.chainP (s : S) : Option Int → List Int → Prop
  | _, [] => True
  | p, x :: l => s.up p x = false ∧ s.chainP (some x) l
theorem scanR_iff (s : S) (c : Int) : ∀ (l : List Int) (p : Option Int) (seen r : List Int), s.scanR c p l seen = some r ↔ r = seen ++ l ∧ (∀ x ∈ l, s.is x c 1 = true) ∧ l.Nodup ∧ (∀ x ∈ l, x ∉ seen) ∧ s.chainP p l
  | [], p, seen, r => by
    simp only [S.scanR, Option.some.injEq, S.chainP, List.append_nil]
    constructor
    · rintro rfl; exact ⟨rfl, by simp, by simp, by simp, trivial⟩
    · rintro ⟨rfl, _⟩; rfl
  | x :: l, p, seen, r => by
    rw [S.scanR]
    by_cases h : s.is x c 1 = false ∨ x ∈ seen ∨ s.up p x = true
    · rw [if_pos h]
      constructor
      · intro h'; cases h'
      · rintro ⟨_, h1, _, h2, h3⟩
        rcases h with h | h | h
        · have := h1 x (by simp); rw [h] at this; cases this
        · exact absurd h (h2 x (by simp))
        · have := h3.1; rw [h] at this; cases this
    · rw [if_neg h, scanR_iff s c l]
      have ha : s.is x c 1 = true := by cases e : s.is x c 1 <;> simp_all
      have hb : x ∉ seen := fun e => h (.inr (.inl e))
      have hc : s.up p x = false := by cases e : s.up p x <;> simp_all
      constructor
      · rintro ⟨rfl, h1, h2, h3, h4⟩
        refine ⟨by simp, ?_, ?_, ?_, hc, h4⟩
        · intro y hy
          rcases List.mem_cons.1 hy with rfl | hy
          · exact ha
          · exact h1 y hy
        · rw [List.nodup_cons]
          exact ⟨fun hx => h3 x hx (by simp), h2⟩
        · intro y hy
          rcases List.mem_cons.1 hy with rfl | hy
          · exact hb
          · exact fun hs => h3 y hy (by simp [hs])
      · rintro ⟨rfl, h1, h2, h3, h4⟩
        rw [List.nodup_cons] at h2
        refine ⟨by simp, fun y hy => h1 y (by simp [hy]), h2.2, fun y hy hs => ?_, h4.2⟩
        rcases List.mem_append.1 hs with hs | hs
        · exact h3 y (by simp [hy]) hs
        · simp at hs; subst hs; exact h2.1 hy
theorem chain_pair (s : S) : ∀ (l : List Int) (p : Option Int), s.chainP p l ↔ (∀ y, p = some y → ∀ x ∈ l, s.pri x ≤ s.pri y) ∧ l.Pairwise (fun x y => s.pri y ≤ s.pri x)
  | [], p => by simp [S.chainP]
  | x :: l, p => by
    simp only [S.chainP, chain_pair s l, List.pairwise_cons]
    constructor
    · rintro ⟨h1, h2, h3⟩
      refine ⟨fun y hy z hz => ?_, fun z hz => h2 x rfl z hz, h3⟩
      subst hy
      have h1' : ¬ s.pri y < s.pri x := by simpa [S.up] using h1
      rcases List.mem_cons.1 hz with rfl | hz
      · omega
      · have := h2 x rfl z hz; omega
    · rintro ⟨h1, h2, h3⟩
      refine ⟨?_, fun y hy z hz => by cases hy; exact h2 z hz, h3⟩
      cases p with
      | none => rfl
      | some y => have := h1 y rfl x (by simp); simp [S.up]; omega
def tot : List Q → Int
  | [] => 0
  | q :: l => q.ready.length + tot l
def runs : List Q → Int
  | [] => 0
  | q :: l => (if q.run = -1 then 0 else 1) + runs l
def S.okQ (s : S) (c : Int) (q : Q) : Prop := s.badQ c q = false ∧ (∀ x ∈ q.ready, s.is x c 1 = true) ∧ q.ready.Nodup ∧ q.ready.Pairwise (fun x y => s.pri y ≤ s.pri x)
theorem is_cpu {s : S} {x c d a b : Int} (h : s.is x c a = true) (h' : s.is x d b = true) : c = d ∧ a = b := by
  obtain ⟨i, t, rfl, ht, h1, h2⟩ := (show ∃ (i : Nat) (t : T), x = i ∧ s.thr[i]? = some t ∧ t.cpu = c ∧ t.st = a by
    have h0 := S.is_lt h
    unfold S.is at h
    split at h
    · rename_i t ht
      simp at h
      exact ⟨x.toNat, t, by omega, ht, h.1.2, h.2⟩
    · cases h)
  unfold S.is at h'
  rw [Int.toNat_natCast, ht] at h'
  simp at h'
  omega
theorem scanQ_iff (s : S) : ∀ (l : List Q) (c : Int) (seen : List Int) (a b : Int), s.scanQ c l seen a b = true ↔ (∀ (k : Nat) q, l[k]? = some q → s.okQ (c + k) q ∧ ∀ x ∈ q.ready, x ∉ seen) ∧ a = tot l ∧ b = runs l
  | [], c, seen, a, b => by simp [S.scanQ, tot, runs]
  | q :: l, c, seen, a, b => by
    rw [S.scanQ]
    constructor
    · intro h
      split at h
      · cases h
      rename_i hb
      split at h
      · cases h
      rename_i seen' hs
      obtain ⟨rfl, h1, h2, h3, h4⟩ := (scanR_iff s c _ _ _ _).1 hs
      obtain ⟨g1, g2, g3⟩ := (scanQ_iff s l _ _ _ _).1 h
      have h5 := ((chain_pair s q.ready none).1 h4).2
      refine ⟨fun k q' hk => ?_, by simp only [tot]; omega, by simp only [runs]; split at g3 <;> simp_all <;> omega⟩
      cases k with
      | zero =>
        simp at hk
        subst hk
        exact ⟨by simpa using ⟨by simpa using hb, h1, h2, h5⟩, h3⟩
      | succ k =>
        have := g1 k q' (by simpa using hk)
        refine ⟨by rw [show c + ((k + 1 : Nat) : Int) = c + 1 + k by omega]; exact this.1, fun x hx hm => this.2 x hx (by simp [hm])⟩
    · rintro ⟨h1, h2, h3⟩
      have h0 := h1 0 q rfl
      simp only [Int.natCast_zero, Int.add_zero] at h0
      obtain ⟨⟨hb, g1, g2, g3⟩, g4⟩ := h0
      rw [if_neg (by simp [hb])]
      have hs : s.scanR c none q.ready seen = some (seen ++ q.ready) := (scanR_iff s c _ _ _ _).2 ⟨rfl, g1, g2, g4, (chain_pair s q.ready none).2 ⟨(fun y hy => by cases hy), g3⟩⟩
      rw [hs]
      refine (scanQ_iff s l _ _ _ _).2 ⟨fun k q' hk => ?_, by simp only [tot] at h2; omega, by simp only [runs] at h3; split at h3 <;> simp_all; omega⟩
      have := h1 (k + 1) q' (by simpa using hk)
      rw [show c + ((k + 1 : Nat) : Int) = c + 1 + k by omega] at this
      refine ⟨this.1, fun x hx hm => ?_⟩
      rcases List.mem_append.1 hm with hm | hm
      · exact this.2 x hx hm
      · have := (is_cpu (g1 x hm) (this.1.2.1 x hx)).1
        omega
theorem sub_len : ∀ (l m : List Int), l.Nodup → (∀ x ∈ l, x ∈ m) → l.length ≤ m.length
  | [], m, _, _ => Nat.zero_le _
  | x :: l, m, hn, h => by
    rw [List.nodup_cons] at hn
    have h1 := sub_len l (m.erase x) hn.2 fun y hy => by
      have : y ≠ x := fun e => hn.1 (e ▸ hy)
      exact (List.mem_erase_of_ne this).2 (h y (by simp [hy]))
    have h2 := List.length_erase_of_mem (h x (by simp))
    have h3 : 0 < m.length := List.length_pos_of_mem (h x (by simp))
    simp only [List.length_cons]
    omega
theorem sub_all {l m : List Int} (hl : l.Nodup) (h : ∀ x ∈ l, x ∈ m) (he : m.length ≤ l.length) : ∀ y ∈ m, y ∈ l := by
  intro y hy
  by_cases hm : y ∈ l
  · exact hm
  · have h1 := sub_len (y :: l) m (List.nodup_cons.2 ⟨hm, hl⟩) (fun x hx => by
      rcases List.mem_cons.1 hx with rfl | hx
      · exact hy
      · exact h x hx)
    simp at h1
    omega
def inSt (k : Int) : List T → Int → List Int
  | [], _ => []
  | t :: l, i => if t.st = k then i :: inSt k l (i + 1) else inSt k l (i + 1)
theorem inSt_len (k : Int) : ∀ (l : List T) (i : Int), ((inSt k l i).length : Int) = cnt k l
  | [], i => by simp [inSt, cnt]
  | t :: l, i => by
    have := inSt_len k l (i + 1)
    simp only [inSt, cnt]
    split
    · simp only [List.length_cons]; omega
    · omega
theorem inSt_mem (k : Int) : ∀ (l : List T) (i x : Int), x ∈ inSt k l i ↔ ∃ (j : Nat) (t : T), l[j]? = some t ∧ x = i + j ∧ t.st = k
  | [], i, x => by simp [inSt]
  | t :: l, i, x => by
    have ih := inSt_mem k l (i + 1) x
    have key : (∃ (j : Nat) (t' : T), (t :: l)[j]? = some t' ∧ x = i + j ∧ t'.st = k) ↔ (x = i ∧ t.st = k) ∨ ∃ (j : Nat) (t' : T), l[j]? = some t' ∧ x = i + 1 + j ∧ t'.st = k := by
      constructor
      · rintro ⟨j, t', h1, h2, h3⟩
        cases j with
        | zero => simp at h1; subst h1; exact .inl ⟨by omega, h3⟩
        | succ j => exact .inr ⟨j, t', by simpa using h1, by omega, h3⟩
      · rintro (⟨h1, h2⟩ | ⟨j, t', h1, h2, h3⟩)
        · exact ⟨0, t, rfl, by omega, h2⟩
        · exact ⟨j + 1, t', by simpa using h1, by omega, h3⟩
    rw [key, inSt]
    split
    · rename_i h
      simp only [List.mem_cons, ih, h, and_true]
    · rename_i h
      simp only [ih, h, and_false, false_or]
theorem inSt_lb (k : Int) (l : List T) (i x : Int) (h : x ∈ inSt k l i) : i ≤ x := by
  obtain ⟨j, t, _, h, _⟩ := (inSt_mem k l i x).1 h
  omega
theorem inSt_nodup (k : Int) : ∀ (l : List T) (i : Int), (inSt k l i).Nodup
  | [], i => by simp [inSt]
  | t :: l, i => by
    simp only [inSt]
    split
    · rw [List.nodup_cons]
      exact ⟨fun h => by have := inSt_lb k l _ _ h; omega, inSt_nodup k l _⟩
    · exact inSt_nodup k l _
def allRdy (l : List Q) : List Int := l.flatMap fun q => q.ready
def allRun : List Q → List Int
  | [] => []
  | q :: l => if q.run = -1 then allRun l else q.run :: allRun l
theorem allRdy_len : ∀ (l : List Q), ((allRdy l).length : Int) = tot l
  | [] => rfl
  | q :: l => by
    have := allRdy_len l
    simp only [allRdy, List.flatMap_cons, List.length_append, tot] at this ⊢
    omega
theorem allRun_len : ∀ (l : List Q), ((allRun l).length : Int) = runs l
  | [] => rfl
  | q :: l => by
    have := allRun_len l
    simp only [allRun, runs]
    split <;> simp <;> omega
theorem allRdy_mem {l : List Q} {x : Int} : x ∈ allRdy l ↔ ∃ (k : Nat) (q : Q), l[k]? = some q ∧ x ∈ q.ready := by
  simp only [allRdy, List.mem_flatMap]
  constructor
  · rintro ⟨q, hq, hx⟩
    obtain ⟨k, hk, rfl⟩ := List.getElem_of_mem hq
    exact ⟨k, _, List.getElem?_eq_getElem hk, hx⟩
  · rintro ⟨k, q, hq, hx⟩
    exact ⟨q, List.mem_of_getElem? hq, hx⟩
theorem allRun_mem : ∀ {l : List Q} {x : Int}, x ∈ allRun l ↔ x ≠ -1 ∧ ∃ (k : Nat) (q : Q), l[k]? = some q ∧ q.run = x
  | [], x => by simp [allRun]
  | q :: l, x => by
    have key : (∃ (k : Nat) (q' : Q), (q :: l)[k]? = some q' ∧ q'.run = x) ↔ q.run = x ∨ ∃ (k : Nat) (q' : Q), l[k]? = some q' ∧ q'.run = x := by
      constructor
      · rintro ⟨k, q', h1, h2⟩
        cases k with
        | zero => simp at h1; subst h1; exact .inl h2
        | succ k => exact .inr ⟨k, q', by simpa using h1, h2⟩
      · rintro (h | ⟨k, q', h1, h2⟩)
        · exact ⟨0, q, rfl, h⟩
        · exact ⟨k + 1, q', by simpa using h1, h2⟩
    rw [key, allRun]
    split
    · rename_i h
      rw [allRun_mem]
      constructor
      · rintro ⟨h1, h2⟩; exact ⟨h1, .inr h2⟩
      · rintro ⟨h1, h2 | h2⟩
        · exact absurd (h2.symm.trans h) h1
        · exact ⟨h1, h2⟩
    · rename_i h
      rw [List.mem_cons, allRun_mem]
      constructor
      · rintro (rfl | ⟨h1, h2⟩)
        · exact ⟨h, .inl rfl⟩
        · exact ⟨h1, .inr h2⟩
      · rintro ⟨h1, rfl | h2⟩
        · exact .inl rfl
        · exact .inr ⟨h1, h2⟩
theorem allRdy_nodup (s : S) : ∀ (l : List Q) (c : Int), (∀ (k : Nat) q, l[k]? = some q → (∀ x ∈ q.ready, s.is x (c + k) 1 = true) ∧ q.ready.Nodup) → (allRdy l).Nodup
  | [], c, _ => by simp [allRdy]
  | q :: l, c, h => by
    have h0 := h 0 q rfl
    have ih := allRdy_nodup s l (c + 1) fun k q' hk => by
      have := h (k + 1) q' (by simpa using hk)
      rwa [show c + ((k + 1 : Nat) : Int) = c + 1 + k by omega] at this
    have : allRdy (q :: l) = q.ready ++ allRdy l := rfl
    rw [this, List.nodup_append]
    refine ⟨h0.2, ih, fun x hx y hy e => ?_⟩
    subst e
    obtain ⟨k, q', hk, hx'⟩ := allRdy_mem.1 hy
    have h1 := h0.1 x hx
    have h2 := (h (k + 1) q' (by simpa using hk)).1 x hx'
    have := (is_cpu h1 h2).1
    omega
theorem allRun_nodup (s : S) : ∀ (l : List Q) (c : Int), (∀ (k : Nat) q, l[k]? = some q → q.run = -1 ∨ s.is q.run (c + k) 2 = true) → (allRun l).Nodup
  | [], c, _ => by simp [allRun]
  | q :: l, c, h => by
    have h0 := h 0 q rfl
    have ih := allRun_nodup s l (c + 1) fun k q' hk => by
      have := h (k + 1) q' (by simpa using hk)
      rwa [show c + ((k + 1 : Nat) : Int) = c + 1 + k by omega] at this
    rw [allRun]
    split
    · exact ih
    · rename_i hn
      rw [List.nodup_cons]
      refine ⟨fun hm => ?_, ih⟩
      obtain ⟨_, k, q', hk, hr⟩ := allRun_mem.1 hm
      have h1 := h0.resolve_left hn
      have h2 := (h (k + 1) q' (by simpa using hk)).resolve_left (by rw [hr]; exact hn)
      rw [hr] at h2
      have := (is_cpu h1 h2).1
      omega
theorem badT_iff (s : S) (t : T) : s.badT t = false ↔ 0 ≤ t.pri ∧ t.pri ≤ 7 ∧ 0 ≤ t.cpu ∧ t.cpu < s.cpus.length ∧ 1 ≤ t.st ∧ t.st ≤ 4 := by
  simp only [S.badT, Bool.or_eq_false_iff, decide_eq_false_iff_not]
  omega
theorem badQ_iff (s : S) (c : Int) (q : Q) : s.badQ c q = false ↔ (q.run = -1 ∧ q.left = 0) ∨ (q.run ≠ -1 ∧ s.is q.run c 2 = true ∧ 0 ≤ q.left ∧ q.left ≤ s.quantum) := by
  unfold S.badQ
  by_cases h : q.run = -1
  · simp [h]
  · rw [if_neg h, Bool.or_eq_false_iff, Bool.or_eq_false_iff, decide_eq_false_iff_not, decide_eq_false_iff_not, Bool.not_eq_false']
    constructor
    · rintro ⟨⟨h1, h2⟩, h3⟩; exact .inr ⟨h, h1, by omega, by omega⟩
    · rintro (⟨h1, _⟩ | ⟨_, h1, h2, h3⟩)
      · exact absurd h1 h
      · exact ⟨⟨h1, by omega⟩, by omega⟩
theorem is_in {s : S} {x c st : Int} (h : s.is x c st = true) : x ∈ inSt st s.thr 0 := by
  obtain ⟨i, t, rfl, ht, _, h2⟩ := (show ∃ (i : Nat) (t : T), x = i ∧ s.thr[i]? = some t ∧ t.cpu = c ∧ t.st = st by
    have h0 := S.is_lt h
    unfold S.is at h
    split at h
    · rename_i t ht
      simp at h
      exact ⟨x.toNat, t, by omega, ht, h.1.2, h.2⟩
    · cases h)
  exact (inSt_mem _ _ _ _).2 ⟨i, t, ht, by omega, h2⟩
theorem is_of {s : S} {i : Nat} {t : T} (ht : s.thr[i]? = some t) : s.is i t.cpu t.st = true := by simp [S.is, ht]
theorem run_ne {s : S} {x c st : Int} (h : s.is x c st = true) : x ≠ -1 := by have := S.is_lt h; omega
theorem valid_iff (s : S) : s.valid = true ↔ s.Ok := by
  rw [S.valid]
  by_cases hb : s.cpus.length < 1 ∨ 4 < s.cpus.length ∨ 16 < s.thr.length ∨ s.quantum < 1 ∨ 20 < s.quantum
  · rw [if_pos hb]
    constructor
    · intro h; cases h
    · intro h
      have := h.c1; have := h.c4; have := h.t16; have := h.q1; have := h.q20
      omega
  rw [if_neg hb, scanT_eq]
  refine Decidable.byCases (p := ∀ t ∈ s.thr, s.badT t = false) (fun ht => ?_) (fun ht => ?_)
  rotate_left
  · rw [if_neg ht]
    constructor
    · intro h; cases h
    · intro h
      exact absurd (fun t ht => (badT_iff s t).2 (h.thr t ht)) ht
  rw [if_pos ht]
  simp only [scanQ_iff, Int.zero_add]
  constructor
  · rintro ⟨h1, h2, h3⟩
    have hrdy : ∀ (k : Nat) q, s.cpus[k]? = some q → (∀ x ∈ q.ready, s.is x (0 + k) 1 = true) ∧ q.ready.Nodup := fun k q hk => by
      rw [Int.zero_add]; exact ⟨(h1 k q hk).1.2.1, (h1 k q hk).1.2.2.1⟩
    have hrun : ∀ (k : Nat) q, s.cpus[k]? = some q → q.run = -1 ∨ s.is q.run (0 + k) 2 = true := fun k q hk => by
      rw [Int.zero_add]
      exact ((badQ_iff s k q).1 (h1 k q hk).1.1).imp (fun h => h.1) fun h => h.2.1
    have hnd := allRdy_nodup s s.cpus 0 hrdy
    have hnr := allRun_nodup s s.cpus 0 hrun
    have a1 := sub_all (m := inSt 1 s.thr 0) hnd (fun x hx => by
      obtain ⟨k, q, hk, hx⟩ := allRdy_mem.1 hx
      exact is_in ((hrdy k q hk).1 x hx)) (by have := inSt_len 1 s.thr 0; have := allRdy_len s.cpus; omega)
    have a2 := sub_all (m := inSt 2 s.thr 0) hnr (fun x hx => by
      obtain ⟨hx, k, q, hk, rfl⟩ := allRun_mem.1 hx
      exact is_in ((hrun k q hk).resolve_left hx)) (by have := inSt_len 2 s.thr 0; have := allRun_len s.cpus; omega)
    refine ⟨by omega, by omega, by omega, by omega, by omega, fun t h => (badT_iff s t).1 (ht t h), fun c q hq => ?_, fun c q hq => ?_, fun i t hi hst => ?_, fun i t hi hst => ?_⟩
    · exact ((badQ_iff s c q).1 (h1 c q hq).1.1).imp id fun h => h.2
    · exact (h1 c q hq).1.2
    · obtain ⟨k, q, hk, hx⟩ := allRdy_mem.1 (a1 i ((inSt_mem _ _ _ _).2 ⟨i, t, hi, by omega, hst⟩))
      have := (is_cpu ((hrdy k q hk).1 _ hx) (is_of hi)).1
      exact ⟨q, by rw [show t.cpu.toNat = k by omega]; exact hk, hx⟩
    · obtain ⟨hne, k, q, hk, hx⟩ := allRun_mem.1 (a2 i ((inSt_mem _ _ _ _).2 ⟨i, t, hi, by omega, hst⟩))
      have h5 := (hrun k q hk).resolve_left (by rw [hx]; exact hne)
      rw [hx] at h5
      have := (is_cpu h5 (is_of hi)).1
      exact ⟨q, by rw [show t.cpu.toNat = k by omega]; exact hk, hx⟩
  · intro h
    have hrdy : ∀ (k : Nat) q, s.cpus[k]? = some q → (∀ x ∈ q.ready, s.is x (0 + k) 1 = true) ∧ q.ready.Nodup := fun k q hk => by
      rw [Int.zero_add]; exact ⟨(h.rdy k q hk).1, (h.rdy k q hk).2.1⟩
    have hrun : ∀ (k : Nat) q, s.cpus[k]? = some q → q.run = -1 ∨ s.is q.run (0 + k) 2 = true := fun k q hk => by
      rw [Int.zero_add]
      exact (h.run k q hk).imp (fun h => h.1) fun h => h.1
    have hnd := allRdy_nodup s s.cpus 0 hrdy
    have hnr := allRun_nodup s s.cpus 0 hrun
    refine ⟨fun k q hk => ⟨⟨(badQ_iff s k q).2 ?_, h.rdy k q hk⟩, by simp⟩, ?_, ?_⟩
    · exact (h.run k q hk).imp id fun h => ⟨run_ne h.1, h⟩
    · have l1 := sub_len (allRdy s.cpus) (inSt 1 s.thr 0) hnd fun x hx => by
        obtain ⟨k, q, hk, hx⟩ := allRdy_mem.1 hx
        exact is_in ((hrdy k q hk).1 x hx)
      have l2 := sub_len (inSt 1 s.thr 0) (allRdy s.cpus) (inSt_nodup _ _ _) fun x hx => by
        obtain ⟨j, t, hj, rfl, hst⟩ := (inSt_mem _ _ _ _).1 hx
        obtain ⟨q, hq, hm⟩ := h.allr j t hj hst
        exact allRdy_mem.2 ⟨_, q, hq, by simpa using hm⟩
      have := inSt_len 1 s.thr 0; have := allRdy_len s.cpus; omega
    · have l1 := sub_len (allRun s.cpus) (inSt 2 s.thr 0) hnr fun x hx => by
        obtain ⟨hx, k, q, hk, rfl⟩ := allRun_mem.1 hx
        exact is_in ((hrun k q hk).resolve_left hx)
      have l2 := sub_len (inSt 2 s.thr 0) (allRun s.cpus) (inSt_nodup _ _ _) fun x hx => by
        obtain ⟨j, t, hj, rfl, hst⟩ := (inSt_mem _ _ _ _).1 hx
        obtain ⟨q, hq, hm⟩ := h.allrun j t hj hst
        exact allRun_mem.2 ⟨by omega, _, q, hq, by omega⟩
      have := inSt_len 2 s.thr 0; have := allRun_len s.cpus; omega
end Go.Proofs.YtigmnlnomhjecaaGreatDoor
set_option maxRecDepth 100000
set_option linter.unusedVariables false
set_option linter.unusedSimpArgs false
namespace Go.Proofs.YtigmnlnomhjecaaGreatDoor
open Go.AM
def S.res (s : S) (r : Option S) (e : Int) : S × Int := if s.valid = true then match r with
  | some s' => (s', 0)
  | none => (S.zero, e)
  else (S.zero, 50)
theorem S.res_ok {s s' : S} {r : Option S} {e : Int} (hv : s.valid = true) (hr : r = some s') : s.res r e = (s', 0) := by subst hr; simp [S.res, hv]
theorem S.res_no {s : S} {r : Option S} {e : Int} (hv : s.valid = true) (hr : r = none) : s.res r e = (S.zero, e) := by subst hr; simp [S.res, hv]
theorem S.res_bad {s : S} {r : Option S} {e : Int} (hv : s.valid = false) : s.res r e = (S.zero, 50) := by simp [S.res, hv]
def S.nAdd (s : S) (p c : Int) : Int := if s.valid = true then if (s.eAdd p c).isSome then s.thr.length else 0 else 0
theorem do_c3 (s : S) (p c : Int) : ACalls Tryz.prog 80 [s.av, .func (.func 81) [] [.ptr 0 0 0, .ptr 1 0 0, .ptr 2 0 0]] [.rows 1 [[iv c]], .rows 1 [[iv p]], .rows 1 [[iv 0]]]
    (fun o H => o = .ret (.tuple [(s.res (s.eAdd p c) (s.rAdd p c)).1.av, iv (s.res (s.eAdd p c) (s.rAdd p c)).2]) ∧ H = [.rows 1 [[iv c]], .rows 1 [[iv p]], .rows 1 [[iv (s.nAdd p c)]]]) := by
  by_cases hv : s.valid = true
  · have hok := (valid_iff s).1 hv
    rw [S.nAdd, if_pos hv]
    cases hr : s.eAdd p c with
    | some s' =>
      rw [S.res_ok hv rfl]
      have hr2 := hr
      unfold S.eAdd at hr2
      cases hqc : s.cp c with
      | none => rw [hqc] at hr2; cases hr2
      | some q =>
        rw [hqc] at hr2
        obtain ⟨i, rfl, hq⟩ := S.cp_some hqc
        simp only at hr2
        split at hr2
        · rename_i hh
          have := Add_ret s hok p i q hq hh.1 hh.2 s' (by simpa using hr2.symm)
          exact do_add s s' _ _ _ _ _ _ _ (fun _ => rfl) (fun _ => rfl) (fun _ => rfl) (fun _ => rfl) (fun _ => rfl) (fun _ => rfl) hv hok.fit (Go.AM.enters_of Tryz.func81 rfl (by decide)) this
        · cases hr2
    | none =>
      rw [S.res_no hv rfl]
      exact do_p3 s _ _ _ _ _ _ _ _ (fun _ => rfl) (fun _ => rfl) (fun _ => rfl) (fun _ => rfl) (fun _ => rfl) (fun _ => rfl) hv hok.fit (Go.AM.enters_of Tryz.func81 rfl (by decide)) (Add_pan s hok p c hr)
  · have hv : s.valid = false := by simpa using hv
    rw [S.res_bad hv, S.nAdd, if_neg (by simp [hv])]
    exact do_n3 s _ _ _ _ (fun _ => rfl) (fun _ => rfl) (fun _ => rfl) hv
theorem Add_c (s : S) (p c : Int) : ACalls Tryz.prog 56 [s.av, iv p, iv c] [] (fun o H => o = .ret (.tuple [(s.res (s.eAdd p c) (s.rAdd p c)).1.av, iv (s.nAdd p c), iv (s.res (s.eAdd p c) (s.rAdd p c)).2]) ∧ H = []) := by
  have hc := do_c3 s p c
  generalize s.res (s.eAdd p c) (s.rAdd p c) = r at hc
  obtain ⟨s1, e1⟩ := r
  refine ACalls.up ?_
  refine ACalls.intro (cs := []) (n := 21) Tryz.func56 rfl rfl rfl (by kernel_rfl) rfl ?_
  simp only [go_sem,S.av]
  refine rK_use (Go.AM.enters_of Tryz.func80 rfl (by decide)) (hc.useE [2, 1, 4] (.tuple [s1.av, iv e1]) [.rows 3 [[.view false 3 (s.cpus.map Q.row), .view false 3 (s.thr.map T.row), iv s.quantum]], .rows 1 [[iv p]], .rows 1 [[iv c]], .rows 3 [[.view true 0 [], .view true 0 [], iv 0]], .rows 1 [[iv (s.nAdd p c)]]]
    (by simp) rfl (by simp) (by simp [Blk.ren, AV.ren]) (by simp [AV.ren, S.av, renL, pi]) (by simp [AV.ren, S.av, renL]) (by simp [patch, setMany, Blk.ren, AV.ren])) ?_
  simp only [go_sem,S.av]
  refine draw [.qu 0 0, .rd 0 1, .qu 0 1, .mn 0, .qu 1 1, .qu 1 1] (by kernel_rfl) (by kernel_rfl) ?_
  simp only [go_sem,S.av]
  exact .gc 0 (Nat.le_refl _) (Nat.zero_le _) (by simp [Out.lt, AV.lt, ltL]) (by simp) (.done ⟨rfl, rfl⟩)
theorem Check_c (s : S) : ACalls Tryz.prog 43 [s.av] [] (fun o H => o = .ret (iv (if s.valid = true then 0 else 50)) ∧ H = []) := by
  refine ACalls.up ?_
  refine ACalls.intro (cs := []) (n := 6) Tryz.func43 rfl rfl rfl (by kernel_rfl) rfl ?_
  simp only [go_sem,S.av]
  refine rK_use (Go.AM.enters_of Tryz.func68 rfl (by decide)) (ACalls.pure_use (valid_c s) rfl rfl) ?_
  cases s.valid <;> simp only [go_sem]
  · exact .gc 0 (Nat.le_refl _) (Nat.zero_le _) (by simp [Out.lt, AV.lt, ltL]) (by simp) (.done ⟨by simp, rfl⟩)
  · exact .gc 0 (Nat.le_refl _) (Nat.zero_le _) (by simp [Out.lt, AV.lt, ltL]) (by simp) (.done ⟨by simp, rfl⟩)
end Go.Proofs.YtigmnlnomhjecaaGreatDoor
set_option maxRecDepth 100000
set_option linter.unusedVariables false
set_option linter.unusedSimpArgs false
namespace Go.Proofs.YtigmnlnomhjecaaGreatDoor
open Go.AM
def S.new (n : Nat) (q : Int) : S := ⟨List.replicate n ⟨-1, 0, []⟩, [], q⟩
def okNew (n q : Int) : Prop := 1 ≤ n ∧ n ≤ 4 ∧ 1 ≤ q ∧ q ≤ 20
instance (n q : Int) : Decidable (okNew n q) := by unfold okNew; infer_instance
def newRow : List AV := [iv (-1), iv 0, .view true 0 []]
def newHp (q : Int) : Nat → Heap
  | 0 => [.rows 3 [[.view true 0 [], .view true 0 [], iv 0]], .rows 3 [[.view true 0 [], .view true 0 [], iv q]]]
  | 1 => [.rows 3 [[.view true 0 [], .view true 0 [], iv 0]], .rows 3 [[.sl 3 0 1 none, .view true 0 [], iv q]], .dead, .rows 3 [newRow]]
  | 2 => [.rows 3 [[.view true 0 [], .view true 0 [], iv 0]], .rows 3 [[.sl 5 0 2 none, .view true 0 [], iv q]], .dead, .dead, .dead, .rows 3 [newRow, newRow]]
  | 3 => [.rows 3 [[.view true 0 [], .view true 0 [], iv 0]], .rows 3 [[.sl 7 0 3 none, .view true 0 [], iv q]], .dead, .dead, .dead, .dead, .dead, .rows 3 [newRow, newRow, newRow]]
  | _ => [.rows 3 [[.view true 0 [], .view true 0 [], iv 0]], .rows 3 [[.sl 9 0 4 none, .view true 0 [], iv q]], .dead, .dead, .dead, .dead, .dead, .dead, .dead, .rows 3 [newRow, newRow, newRow, newRow]]
theorem New_c (n q : Int) : ACalls Tryz.prog 55 [iv n, iv q] [] (fun o H => o = .ret (if okNew n q then .tuple [(S.new n.toNat q).av, iv 0] else .tuple [S.zero.av, iv 1]) ∧ H = []) := by
  refine ACalls.up ?_
  refine ACalls.intro (cs := []) (n := 35) Tryz.func55 rfl rfl rfl (by kernel_rfl) rfl ?_
  generalize hpost : (fun (o : Out) (H : Heap) => o = Out.ret (if okNew n q then .tuple [(S.new n.toNat q).av, iv 0] else .tuple [S.zero.av, iv 1]) ∧ H = []) = post
  have bad : ∀ H, ¬ okNew n q → Up 0 post (.ret (.tuple [.agg [.view true 0 [], .view true 0 [], iv 0], iv 1])) H := fun H h => by
    rw [← hpost]
    exact .gc 0 (Nat.le_refl _) (Nat.zero_le _) (by simp [Out.lt, AV.lt, ltL]) (by simp) (.le (.ret (.tuple (.cons zero_le (.cons (.refl _) .nil)))) (LeH.refl _) (.done ⟨by rw [if_neg h], by simp⟩))
  simp only [go_sem]
  refine gD_dec (fun hg => ?_) (fun hg => ?_) <;> simp only [go_sem,hg]
  · exact bad _ (by unfold okNew; omega)
  refine gD_dec (fun hg => ?_) (fun hg => ?_) <;> simp only [go_sem,hg]
  · exact bad _ (by unfold okNew; omega)
  refine gD_dec (fun hg => ?_) (fun hg => ?_) <;> simp only [go_sem,hg]
  · exact bad _ (by unfold okNew; omega)
  refine condD_dec (fun hg => ?_) (fun hg => ?_) <;> simp only [go_sem,hg]
  · exact bad _ (by unfold okNew; omega)
  have hok : okNew n q := by unfold okNew; omega
  obtain ⟨m, rfl⟩ : ∃ m : Nat, n = m := ⟨n.toNat, by omega⟩
  refine loop_fam (fun i : Nat => (((Ch.nil.put 4 (.ptr 0 0 0)).put 6 (.ptr 1 0 0)).put 24 (iv m)).put 25 (iv i)) (fun i => newHp q i) (fun i => m - i) (fun i => i ≤ m) 0 (by kernel_rfl) (Nat.zero_le _) (Wk.slots' rfl (by simp [wkS, Ch.get])) ?_
  rintro i hi K hK
  have hm4 : m ≤ 4 := by omega
  have w1 : iw .i64 1 = 1 := rfl
  have w2 : iw .i64 2 = 2 := rfl
  have w3 : iw .i64 3 = 3 := rfl
  have w4 : iw .i64 4 = 4 := rfl
  simp only [go_sem]
  refine condD_dec (fun hc => ?_) (fun hc => ?_)
  · have e1 : iw .i64 ((i : Int) + 1) = ((i + 1 : Nat) : Int) := by rw [iw64] <;> omega
    obtain rfl | rfl | rfl | rfl : i = 0 ∨ i = 1 ∨ i = 2 ∨ i = 3 := by omega
    · simp only [go_sem,newHp,newRow,e1,w1,w2,w3,w4]
      exact hK 1 _ _ (by omega) (by omega) ((Wk.slots (by simp [wkS, Ch.get])).trans (Wk.dead 2))
    · simp only [go_sem,newHp,newRow,e1,w1,w2,w3,w4]
      exact hK 2 _ _ (by omega) (by omega) ((Wk.slots (by simp [wkS, Ch.get])).trans (Wk.dead 4))
    · simp only [go_sem,newHp,newRow,e1,w1,w2,w3,w4]
      exact hK 3 _ _ (by omega) (by omega) ((Wk.slots (by simp [wkS, Ch.get])).trans (Wk.dead 6))
    · simp only [go_sem,newHp,newRow,e1,w1,w2,w3,w4]
      exact hK 4 _ _ (by omega) (by omega) ((Wk.slots (by simp [wkS, Ch.get])).trans (Wk.dead 8))
  · obtain rfl : i = m := by omega
    have hpure : ∀ k : Nat, ∀ row ∈ List.replicate k newRow, ∀ x ∈ row, x.pure = true := by
      intro k row hr x hx
      obtain ⟨_, rfl⟩ := List.mem_replicate.1 hr
      simp [newRow] at hx
      rcases hx with rfl | rfl | rfl <;> rfl
    have hrow : LeL newRow (Q.row ⟨-1, 0, []⟩) := .cons (.refl _) (.cons (.refl _) (.cons (.nil _ _ _ _ (by simp)) .nil))
    rw [if_pos hok] at hpost
    obtain rfl | rfl | rfl | rfl : i = 1 ∨ i = 2 ∨ i = 3 ∨ i = 4 := by omega
    · simp only [go_sem,newHp]
      subst hpost
      refine Up.kill [0, 1] _ (.fz 3 3 (List.replicate 1 newRow) rfl (hpure _) (by simp [Out.fzOk, AV.fzOk, fzOkL]) (by simp [kill, Blk.fzOk]) ?_)
      refine .gc 0 (Nat.le_refl _) (Nat.zero_le _) (by simp [Out.fz, AV.fz, fzL, Out.lt, AV.lt, ltL]) (by simp) ?_
      simp only [Out.fz, AV.fz, fzL, if_true]
      exact .le (.ret (.tuple (.cons (.agg (.cons (.view _ _ _ (by simp) (.cons hrow .nil)) (.cons (.nil _ _ _ _ (by simp)) (.cons (.refl _) .nil)))) (.cons (.refl _) .nil)))) (LeH.refl _) (.done ⟨rfl, rfl⟩)
    · simp only [go_sem,newHp]
      subst hpost
      refine Up.kill [0, 1] _ (.fz 5 3 (List.replicate 2 newRow) rfl (hpure _) (by simp [Out.fzOk, AV.fzOk, fzOkL]) (by simp [kill, Blk.fzOk]) ?_)
      refine .gc 0 (Nat.le_refl _) (Nat.zero_le _) (by simp [Out.fz, AV.fz, fzL, Out.lt, AV.lt, ltL]) (by simp) ?_
      simp only [Out.fz, AV.fz, fzL, if_true]
      exact .le (.ret (.tuple (.cons (.agg (.cons (.view _ _ _ (by simp) (.cons hrow (.cons hrow .nil))) (.cons (.nil _ _ _ _ (by simp)) (.cons (.refl _) .nil)))) (.cons (.refl _) .nil)))) (LeH.refl _) (.done ⟨rfl, rfl⟩)
    · simp only [go_sem,newHp]
      subst hpost
      refine Up.kill [0, 1] _ (.fz 7 3 (List.replicate 3 newRow) rfl (hpure _) (by simp [Out.fzOk, AV.fzOk, fzOkL]) (by simp [kill, Blk.fzOk]) ?_)
      refine .gc 0 (Nat.le_refl _) (Nat.zero_le _) (by simp [Out.fz, AV.fz, fzL, Out.lt, AV.lt, ltL]) (by simp) ?_
      simp only [Out.fz, AV.fz, fzL, if_true]
      exact .le (.ret (.tuple (.cons (.agg (.cons (.view _ _ _ (by simp) (.cons hrow (.cons hrow (.cons hrow .nil)))) (.cons (.nil _ _ _ _ (by simp)) (.cons (.refl _) .nil)))) (.cons (.refl _) .nil)))) (LeH.refl _) (.done ⟨rfl, rfl⟩)
    · simp only [go_sem,newHp]
      subst hpost
      refine Up.kill [0, 1] _ (.fz 9 3 (List.replicate 4 newRow) rfl (hpure _) (by simp [Out.fzOk, AV.fzOk, fzOkL]) (by simp [kill, Blk.fzOk]) ?_)
      refine .gc 0 (Nat.le_refl _) (Nat.zero_le _) (by simp [Out.fz, AV.fz, fzL, Out.lt, AV.lt, ltL]) (by simp) ?_
      simp only [Out.fz, AV.fz, fzL, if_true]
      exact .le (.ret (.tuple (.cons (.agg (.cons (.view _ _ _ (by simp) (.cons hrow (.cons hrow (.cons hrow (.cons hrow .nil))))) (.cons (.nil _ _ _ _ (by simp)) (.cons (.refl _) .nil)))) (.cons (.refl _) .nil)))) (LeH.refl _) (.done ⟨rfl, rfl⟩)
end Go.Proofs.YtigmnlnomhjecaaGreatDoor
set_option maxRecDepth 100000
set_option linter.unusedVariables false
set_option linter.unusedSimpArgs false
namespace Go.Proofs.YtigmnlnomhjecaaGreatDoor
open Go.AM
open Go.Glob (Bs)
structure Sy where
  name : Bs
  at_ : Int
  size : Int
structure Pc where
  name : Bs
  s : Sp
  syms : List Sy
  dead : Bool
  status : Int
def Sy.row (x : Sy) : List AV := [Sv x.name, iv x.at_, iv x.size]
theorem Sy.rows_lt (l : List Sy) : ∀ row ∈ l.map Sy.row, ltL 0 row = true := AM.rows_lt (fun _ => rfl) l
def Pc.row (p : Pc) : List AV := [Sv p.name, .view false 1 (p.s.perm.map r1), .view false 1 (p.s.byt.map rb), .view false 3 (p.syms.map Sy.row), .bool p.dead, iv p.status]
def letter (c : UInt8) : Bool := decide (97 ≤ (c.toNat : Int) ∧ (c.toNat : Int) ≤ 122) || decide (65 ≤ (c.toNat : Int) ∧ (c.toNat : Int) ≤ 90) || decide ((c.toNat : Int) = 95)
theorem letter_c (c : UInt8) : ACalls Tryz.prog 111 [bv c] [] (fun o H => o = .ret (.bool (letter c)) ∧ H = []) := by
  refine ACalls.up ?_
  refine ACalls.intro (cs := []) (n := 21) Tryz.func111 rfl rfl rfl (by kernel_rfl) rfl ?_
  generalize hpost : (fun (o : Out) (H : Heap) => o = Out.ret (.bool (letter c)) ∧ H = []) = post
  have fin : ∀ b H, b = letter c → Up 0 post (.ret (.bool b)) H := fun b H h => finv rfl (by rw [← hpost, ← h]; exact ⟨rfl, rfl⟩) H
  simp only [go_sem]
  repeat' (first | (refine gD_dec (fun hg => ?_) (fun hg => ?_) <;> simp only [go_sem,hg]) | (refine condD_dec (fun hg => ?_) (fun hg => ?_) <;> simp only [go_sem,hg]))
  all_goals exact fin _ _ (by simp [letter]; omega)
def nameB (c : UInt8) : Bool := letter c || decide (48 ≤ (c.toNat : Int) ∧ (c.toNat : Int) ≤ 57)
def isNm : Bs → Bool
  | [] => false
  | c :: r => decide (r.length ≤ 30) && letter c && (c :: r).all nameB
theorem strq (a b : Bs) : ((ByteArray.mk a.toArray).toList == (ByteArray.mk b.toArray).toList) = decide (a = b) := by
  rw [toList_eq, toList_eq, Bool.eq_iff_iff, beq_iff_eq, decide_eq_true_iff]
theorem strq0 (a : Bs) : ((ByteArray.mk a.toArray).toList == (ByteArray.mk #[]).toList) = a.isEmpty := by
  rw [show ByteArray.mk #[] = ByteArray.mk ([] : Bs).toArray from rfl, strq]
  cases a <;> rfl
theorem strqs (a b : Bs) : decide (ByteArray.mk a.toArray = ByteArray.mk b.toArray) = decide (a = b) := by
  rw [Bool.eq_iff_iff, decide_eq_true_iff, decide_eq_true_iff]
  exact ⟨fun h => congrArg (fun x => x.data.toList) h, fun h => by rw [h]⟩
theorem isName_c (s : Bs) : ACalls Tryz.prog 93 [Sv s] [] (fun o H => o = .ret (.bool (isNm s)) ∧ H = []) := by
  refine ACalls.up ?_
  refine ACalls.intro (cs := []) (n := 40) Tryz.func93 rfl rfl rfl (by kernel_rfl) rfl ?_
  generalize hpost : (fun (o : Out) (H : Heap) => o = Out.ret (.bool (isNm s)) ∧ H = []) = post
  have fin : ∀ b H, b = isNm s → Up 0 post (.ret (.bool b)) H := fun b H h => finv rfl (by rw [← hpost, ← h]; exact ⟨rfl, rfl⟩) H
  cases s with
  | nil =>
    simp only [go_sem,show ((ByteArray.mk #[]).toList == (ByteArray.mk #[]).toList) = true from strq0 [],List.size_toArray]
    exact fin _ _ rfl
  | cons c r =>
    have hat : (c :: r)[0]? = some c := rfl
    simp only [go_sem,strq0,List.isEmpty_cons,List.size_toArray,List.length_cons]
    refine gD_dec (fun h1 => ?_) (fun h1 => ?_)
    · simp only [go_sem,eq_true h1]
      refine fin _ _ ?_
      have : ¬ r.length ≤ 30 := by omega
      simp [isNm, this]
    have hl : r.length ≤ 30 := by omega
    have g0 : (0 : Int) < ((r.length + 1 : Nat) : Int) := by omega
    simp only [go_sem,h1,List.size_toArray,List.length_cons,g0]
    refine rK_use (Go.AM.enters_of Tryz.func111 rfl (by decide)) (ACalls.pure_use (letter_c c) rfl rfl) ?_
    simp only [go_sem]
    refine condD_bool (fun h2 => ?_) (fun h2 => ?_)
    · simp only [go_sem]
      refine fin _ _ ?_
      have : letter c = false := by simpa using h2
      simp [isNm, this]
    have h2 : letter c = true := by simpa using h2
    simp only [go_sem,List.size_toArray,List.length_cons]
    refine loop_fam (fun i : Nat => (((Ch.nil.put 0 (Sv (c :: r))).put 18 (iv (r.length + 1 : Nat))).put 19 (iv i))) (fun _ => []) (fun i => r.length + 1 - i) (fun i => i ≤ r.length + 1 ∧ ((c :: r).take i).all nameB = true) 0 (by kernel_rfl) ⟨Nat.zero_le _, rfl⟩ (Wk.slots' rfl (by simp [wkS, Ch.get])) ?_
    rintro i ⟨hi, hall⟩ K hK
    simp only [go_sem]
    refine condD_dec (fun hc => ?_) (fun hc => ?_)
    · obtain ⟨y, hy⟩ := at_lt (l := c :: r) (i := i) (by simp; omega)
      have e1 : iw .i64 ((i : Int) + 1) = ((i + 1 : Nat) : Int) := by rw [iw64] <;> omega
      have g1 : (0 : Int) ≤ (i : Int) ∧ (i : Int) < ((r.length + 1 : Nat) : Int) := by omega
      have next : nameB y = true → ∀ s', wkS (((Ch.nil.put 0 (Sv (c :: r))).put 18 (iv (r.length + 1 : Nat))).put 19 (iv (i + 1 : Nat))) s' → K s' [] := fun hn s' hs' => hK (i + 1) _ _ ⟨by omega, all_step hy hall hn⟩ (by omega) (Wk.slots' rfl hs')
      have bad : nameB y = false → ∀ H, Up 0 post (.ret (.bool false)) H := fun hn H => fin _ _ (by
        symm
        rw [Bool.eq_false_iff]
        intro h
        simp only [isNm, Bool.and_eq_true] at h
        exact all_not hy hn h.2)
      simp only [go_sem,List.size_toArray,List.length_cons,g1,hy]
      refine rK_use (Go.AM.enters_of Tryz.func111 rfl (by decide)) (ACalls.pure_use (letter_c y) rfl rfl) ?_
      simp only [go_sem]
      refine gD_bool (fun h3 => ?_) (fun h3 => ?_)
      · have h3' : letter y = false := by simpa using h3
        simp only [go_sem,h3,List.size_toArray,List.length_cons,g1,hy]
        repeat' (first | (refine gD_dec (fun hg => ?_) (fun hg => ?_) <;> simp only [go_sem,hg,List.size_toArray,List.length_cons,g1,hy]) | (refine condD_dec (fun hg => ?_) (fun hg => ?_) <;> simp only [go_sem,hg,List.size_toArray,List.length_cons,g1,hy]))
        all_goals first
          | exact bad (by simp [nameB, h3']; omega) _
          | (simp only [go_sem,e1]; exact next (by simp [nameB, h3']; omega) _ (by simp [wkS, Ch.get]))
          | skip
      · have h3' : letter y = true := by simpa using h3
        simp only [go_sem,h3,e1]
        exact next (by simp [nameB, h3']) _ (by simp [wkS, Ch.get])
    · simp only [go_sem]
      refine fin _ _ ?_
      have : i = r.length + 1 := by omega
      rw [List.take_of_length_le (by simp; omega)] at hall
      simp only [isNm, hall, h2, Bool.and_true]
      simp [hl]
end Go.Proofs.YtigmnlnomhjecaaGreatDoor
set_option maxRecDepth 100000
set_option linter.unusedVariables false
set_option linter.unusedSimpArgs false
namespace Go.Proofs.YtigmnlnomhjecaaGreatDoor
open Go.AM
open Go.Glob (Bs)
def nextAt (size : Int) : List Sy → Int
  | [] => size
  | y :: _ => if y.at_ < size then y.at_ else size
def symOk (x : Sy) (next : Int) : Bool := isNm x.name && decide (0 ≤ x.at_) && decide (1 ≤ x.size) && decide (x.at_ ≤ next) && decide (x.size ≤ next - x.at_)
def symGo (size : Int) : List Bs → List Sy → Bool
  | _, [] => true
  | seen, x :: l => symOk x (nextAt size l) && !decide (x.name ∈ seen) && symGo size (seen ++ [x.name]) l
def symsOk (l : List Sy) (size : Int) : Bool := decide (l.length ≤ 32) && symGo size [] l
def nmE (l : List Bs) : List (AV × AV) := l.map fun n => (Sv n, .bool true)
theorem nmE_lt (l : List Bs) (m : Nat) : (Blk.amap (nmE l)).lt m := by
  intro e he
  obtain ⟨n, _, rfl⟩ := List.mem_map.1 he
  rfl
theorem mfind_nm (n : Bs) : ∀ (l : List Bs) (k : Nat), (n ∈ l → ∃ i, mfind (Sv n) (nmE l) k = some (some (i, .bool true))) ∧ (n ∉ l → mfind (Sv n) (nmE l) k = some none)
  | [], k => ⟨fun h => by simp at h, fun _ => rfl⟩
  | x :: l, k => by
    obtain ⟨h1, h2⟩ := mfind_nm n l (k + 1)
    have hk : keyEq (Sv n) (Sv x) = some (decide (n = x)) := by rw [keyEq, strqs]
    by_cases e : n = x
    · subst e
      refine ⟨fun _ => ⟨k, ?_⟩, fun h => by simp at h⟩
      simp only [nmE, List.map_cons, mfind, hk, decide_true]
    · have hm : ∀ r, mfind (Sv n) (nmE l) (k + 1) = r → mfind (Sv n) (nmE (x :: l)) k = r := fun r hr => by
        simp only [nmE, List.map_cons, mfind, hk, e, decide_false]
        exact hr
      exact ⟨fun h => by
        obtain ⟨i, hi⟩ := h1 (by simpa [e] using h)
        exact ⟨i, hm _ hi⟩, fun h => hm _ (h2 (by simp at h; exact h.2))⟩
theorem nextAt_le (size : Int) (l : List Sy) : nextAt size l ≤ size := by
  unfold nextAt
  split
  · omega
  · split <;> omega
theorem symbols_c (l : List Sy) (size : Int) (h0 : 0 ≤ size) (h1 : size ≤ 1000000000000) (hl : l.length ≤ 9223372036854775807) : ACalls Tryz.prog 71 [.view false 3 (l.map Sy.row), iv size] [] (fun o H => o = .ret (.bool (symsOk l size)) ∧ H = []) := by
  refine ACalls.up ?_
  refine ACalls.intro (cs := [10]) (n := 73) Tryz.func71 rfl rfl rfl (by kernel_rfl) rfl ?_
  generalize hpost : (fun (o : Out) (H : Heap) => o = Out.ret (.bool (symsOk l size)) ∧ H = []) = post
  have fin : ∀ b H, b = symsOk l size → Up 0 post (.ret (.bool b)) H := fun b H h => finv rfl (by rw [← hpost, ← h]; exact ⟨rfl, rfl⟩) H
  simp only [go_sem,List.length_map]
  refine condD_dec (fun h2 => ?_) (fun h2 => ?_)
  · simp only [go_sem]
    refine fin _ _ ?_
    have : ¬ l.length ≤ 32 := by omega
    simp [symsOk, this]
  have hl32 : l.length ≤ 32 := by omega
  simp only [go_sem,List.length_map]
  refine loop_fam (fun i : Nat => ((((((Ch.nil.put 0 (.view false 3 (l.map Sy.row))).put 1 (iv size)).put 5 (.map 0)).put 13 (.view false 3 (l.map Sy.row))).put 14 (iv l.length)).put 15 (iv i)))
    (fun i => [.amap (nmE ((l.take i).map Sy.name))]) (fun i => l.length - i) (fun i => i ≤ l.length ∧ symGo size [] l = symGo size ((l.take i).map Sy.name) (l.drop i)) 0 (by kernel_rfl) ⟨Nat.zero_le _, rfl⟩ (Wk.slots' rfl (by simp [wkS, Ch.get])) ?_
  rintro i ⟨hi, hinv⟩ K hK
  simp only [go_sem]
  refine condD_dec (fun hc => ?_) (fun hc => ?_)
  · have hi' : i < l.length := by omega
    obtain ⟨x, hx⟩ := at_lt hi'
    have e1 : iw .i64 ((i : Int) + 1) = ((i + 1 : Nat) : Int) := by rw [iw64] <;> omega
    have g1 : (0 : Int) ≤ (i : Int) ∧ (i : Int) < l.length := by omega
    rw [Go.AM.drop_at hx, symGo] at hinv
    have hnx := nextAt_le size (l.drop (i + 1))
    generalize hn : nextAt size (l.drop (i + 1)) = next at *
    have bad : (symOk x next && !decide (x.name ∈ (l.take i).map Sy.name)) = false → ∀ H, Up 0 post (.ret (.bool false)) H := fun h H => fin _ _ (by rw [symsOk, hinv, h]; simp)
    have good : (symOk x next && !decide (x.name ∈ (l.take i).map Sy.name)) = true → ∀ s' Z, wkS ((((((Ch.nil.put 0 (.view false 3 (l.map Sy.row))).put 1 (iv size)).put 5 (.map 0)).put 13 (.view false 3 (l.map Sy.row))).put 14 (iv l.length)).put 15 (iv (i + 1 : Nat))) s' → K s' (.amap (nmE ((l.take i).map Sy.name) ++ [(Sv x.name, .bool true)]) :: Z) := fun h s' Z hs' => by
      have e : nmE ((l.take i).map Sy.name) ++ [(Sv x.name, .bool true)] = nmE ((l.take (i + 1)).map Sy.name) := by
        rw [List.take_add_one, hx]
        simp [nmE]
      rw [e]
      refine hK (i + 1) _ _ ⟨hi', ?_⟩ (by omega) (Wk.drop (m := 1) hs' (Nat.zero_le _) (by simp) (by simp [chLt, AV.lt]) rfl (fun b hb => by rw [List.mem_singleton.1 hb]; exact nmE_lt _ _))
      rw [hinv, h, List.take_add_one, hx]
      simp
    simp only [go_sem,g1,List.length_map,List.getElem?_map,hx,Sy.row,e1]
    refine seq_cut (fun _ : Unit => (((((((Ch.nil.put 0 (.view false 3 (l.map Sy.row))).put 1 (iv size)).put 5 (.map 0)).put 13 (.view false 3 (l.map Sy.row))).put 14 (iv l.length)).put 15 (iv i)).put 7 (.ptr 1 0 0)).put 8 (iv next)) (fun _ => [.amap (nmE ((l.take i).map Sy.name)), .rows 3 [[Sv x.name, iv x.at_, iv x.size]]]) (fun _ => True) (by kernel_rfl) ?_ ?_
    · intro K2 hK2
      simp only [go_sem,e1,List.length_map]
      refine condD_dec (fun h3 => ?_) (fun h3 => ?_)
      · obtain ⟨y, hy⟩ := at_lt (l := l) (i := i + 1) (by omega)
        have g2 : (0 : Int) ≤ ((i + 1 : Nat) : Int) ∧ ((i + 1 : Nat) : Int) < l.length := by omega
        simp only [go_sem,e1,g2,List.length_map,List.getElem?_map,hy,Sy.row]
        refine hK2 () _ _ trivial (Wk.slots' rfl ?_)
        rw [Go.AM.drop_at hy, nextAt] at hn
        rw [← hn]
        simp [wkS, Ch.get]
      · simp only [go_sem]
        refine hK2 () _ _ trivial (Wk.slots' rfl ?_)
        rw [List.drop_eq_nil_of_le (by omega), nextAt] at hn
        rw [← hn]
        simp [wkS, Ch.get]
    · intro _ _
      simp only [go_sem]
      refine rK_use (Go.AM.enters_of Tryz.func93 rfl (by decide)) (ACalls.pure_use (isName_c x.name) rfl rfl) ?_
      simp only [go_sem]
      refine gD_bool (fun h3 => ?_) (fun h3 => ?_)
      · simp only [go_sem,h3]
        exact bad (by have : isNm x.name = false := by simpa using h3
                      simp [symOk, this]) _
      have h3 : isNm x.name = true := by simpa using h3
      by_cases hmem : x.name ∈ (l.take i).map Sy.name
      · obtain ⟨k, hk⟩ := (mfind_nm x.name _ 0).1 hmem
        simp only [go_sem,h3,hk]
        exact bad (by rw [decide_eq_true hmem]; simp) _
      · have hk := (mfind_nm x.name _ 0).2 hmem
        simp only [go_sem,h3,hk]
        refine gD_dec (fun h4 => ?_) (fun h4 => ?_)
        · simp only [go_sem,eq_true h4]
          exact bad (by have : ¬ 0 ≤ x.at_ := by omega
                        simp [symOk, this]) _
        simp only [go_sem,h4]
        refine gD_dec (fun h5 => ?_) (fun h5 => ?_)
        · simp only [go_sem,eq_true h5]
          exact bad (by have : ¬ 1 ≤ x.size := by omega
                        simp [symOk, this]) _
        simp only [go_sem,h5]
        refine gD_dec (fun h6 => ?_) (fun h6 => ?_)
        · simp only [go_sem,eq_true h6]
          exact bad (by have : ¬ x.at_ ≤ next := by omega
                        simp [symOk, this]) _
        have e9 : iw .i64 (next - x.at_) = next - x.at_ := by rw [iw64] <;> omega
        simp only [go_sem,h6,e9]
        refine condD_dec (fun h7 => ?_) (fun h7 => ?_)
        · simp only [go_sem]
          exact bad (by have : ¬ x.size ≤ next - x.at_ := by omega
                        simp [symOk, this]) _
        · simp only [go_sem,hk,e1]
          refine good ?_ _ _ (by simp [wkS, Ch.get])
          have a1 : 0 ≤ x.at_ := by omega
          have a2 : 1 ≤ x.size := by omega
          have a3 : x.at_ ≤ next := by omega
          have a4 : x.size ≤ next - x.at_ := by omega
          simp only [symOk, h3, a1, a2, a3, a4, hmem, decide_true, decide_false, Bool.and_self, Bool.not_false]
  · simp only [go_sem]
    refine fin _ _ ?_
    obtain rfl : i = l.length := by omega
    rw [symsOk, hinv, List.drop_length]
    simp [symGo, hl32]
def prtB (c : UInt8) : Bool := decide (33 ≤ (c.toNat : Int)) && decide ((c.toNat : Int) ≤ 126)
def pcOk (p : Pc) : Bool := decide (1 ≤ p.name.length ∧ p.name.length ≤ 31) && p.name.all prtB && decide p.s.ok && symsOk p.syms p.s.byt.length && (p.dead || decide (p.status = 0))
theorem process_c (p : Pc) (hl : p.syms.length ≤ 9223372036854775807) : ACalls Tryz.prog 46 [.agg p.row] [] (fun o H => o = .ret (.bool (pcOk p)) ∧ H = []) := by
  refine ACalls.up ?_
  refine ACalls.intro (cs := []) (n := 54) Tryz.func46 rfl rfl rfl (by kernel_rfl) rfl ?_
  generalize hpost : (fun (o : Out) (H : Heap) => o = Out.ret (.bool (pcOk p)) ∧ H = []) = post
  have fin : ∀ b H, b = pcOk p → Up 0 post (.ret (.bool b)) H := fun b H h => finv rfl (by rw [← hpost, ← h]; exact ⟨rfl, rfl⟩) H
  simp only [go_sem,Pc.row,strq0,List.size_toArray]
  refine gD_bool (fun h1 => ?_) (fun h1 => ?_)
  · simp only [go_sem,h1]
    exact fin _ _ (by have : p.name = [] := List.isEmpty_iff.1 h1
                      simp [pcOk, this])
  have hne : 1 ≤ p.name.length := by
    cases hn : p.name with
    | nil => rw [hn] at h1; cases h1
    | cons c r => simp
  simp only [go_sem,h1,List.size_toArray]
  refine condD_dec (fun h2 => ?_) (fun h2 => ?_)
  · simp only [go_sem]
    exact fin _ _ (by have : ¬ p.name.length ≤ 31 := by omega
                      simp [pcOk, this])
  have h31 : p.name.length ≤ 31 := by omega
  simp only [go_sem,List.size_toArray]
  have hrow : ∀ X, X = [AV.str { data := p.name.toArray }, .view false 1 (p.s.perm.map r1), .view false 1 (p.s.byt.map rb), .view false 3 (p.syms.map Sy.row), .bool p.dead, iv p.status] → X = p.row := fun X h => h
  refine loop_fam (fun i : Nat => (((Ch.nil.put 1 (.ptr 0 0 0)).put 15 (iv p.name.length)).put 16 (iv i))) (fun _ => [.rows 6 [p.row]]) (fun i => p.name.length - i) (fun i => i ≤ p.name.length ∧ (p.name.take i).all prtB = true) 0 (by kernel_rfl) ⟨Nat.zero_le _, rfl⟩ (Wk.slots' rfl (by simp [wkS, Ch.get])) ?_
  rintro i ⟨hi, hall⟩ K hK
  simp only [go_sem,Pc.row]
  refine condD_dec (fun hc => ?_) (fun hc => ?_)
  · obtain ⟨y, hy⟩ := at_lt (l := p.name) (i := i) (by omega)
    have e1 : iw .i64 ((i : Int) + 1) = ((i + 1 : Nat) : Int) := by rw [iw64] <;> omega
    have g1 : (0 : Int) ≤ (i : Int) ∧ (i : Int) < p.name.length := by omega
    simp only [go_sem,List.size_toArray,g1,hy]
    have bad : prtB y = false → ∀ H, Up 0 post (.ret (.bool false)) H := fun hn H => fin _ _ (by
      symm
      rw [Bool.eq_false_iff]
      intro h
      simp only [pcOk, Bool.and_eq_true] at h
      exact all_not hy hn h.1.1.1.2)
    refine gD_dec (fun h3 => ?_) (fun h3 => ?_)
    · simp only [go_sem,eq_true h3]
      exact bad (by have : ¬ 33 ≤ (y.toNat : Int) := by omega
                    simp [prtB, this]) _
    simp only [go_sem,h3,List.size_toArray,g1,hy]
    refine condD_dec (fun h4 => ?_) (fun h4 => ?_)
    · simp only [go_sem]
      exact bad (by have : ¬ (y.toNat : Int) ≤ 126 := by omega
                    simp [prtB, this]) _
    · simp only [go_sem,e1]
      refine hK (i + 1) _ _ ⟨by omega, all_step hy hall ?_⟩ (by omega) (Wk.slots' rfl (by simp [wkS, Ch.get]))
      have a1 : 33 ≤ (y.toNat : Int) := by omega
      have a2 : (y.toNat : Int) ≤ 126 := by omega
      simp [prtB, a1, a2]
  · obtain rfl : i = p.name.length := by omega
    rw [List.take_length] at hall
    simp only [go_sem]
    refine rK_use (Go.AM.enters_of Tryz.func70 rfl (by decide)) (ACalls.pure_use (mcheck_c p.s) rfl rfl) ?_
    rw [Sp.chk]
    by_cases hs : p.s.ok
    · rw [if_pos hs]
      have h32 := hs.p32
      have hbl := hs.len
      simp only [go_sem,List.length_map]
      refine rK_use (Go.AM.enters_of Tryz.func71 rfl (by decide)) (ACalls.pure_use (symbols_c p.syms p.s.byt.length (by omega) (by omega) hl) rfl rfl) ?_
      have hval : pcOk p = (symsOk p.syms p.s.byt.length && (p.dead || decide (p.status = 0))) := by
        simp [pcOk, hne, h31, hall, hs]
      simp only [go_sem]
      refine gD_bool (fun h3 => ?_) (fun h3 => ?_)
      · simp only [go_sem,h3]
        refine gD_bool (fun h4 => ?_) (fun h4 => ?_)
        · simp only [go_sem,h4]
          exact fin _ _ (by rw [hval, h3, h4]; rfl)
        · simp only [go_sem,h4]
          exact fin _ _ (by rw [hval, h3, h4]; rfl)
      · simp only [go_sem,h3]
        exact fin _ _ (by rw [hval, h3]; rfl)
    · rw [if_neg hs]
      simp only [go_sem]
      exact fin _ _ (by simp [pcOk, hs])
end Go.Proofs.YtigmnlnomhjecaaGreatDoor
set_option maxRecDepth 100000
set_option linter.unusedVariables false
set_option linter.unusedSimpArgs false
namespace Go.Proofs.YtigmnlnomhjecaaGreatDoor
open Go.AM
open Go.Glob (Bs)
structure Th where
  pid : Int
  regs : List Int
  wait : Int
  chan : Int
  sys : Int
def reg (l : List Int) (i : Nat) : Int := (l[i]?).getD 0
def Th.row (t : Th) : List AV := [iv t.pid, iv (reg t.regs 0), iv (reg t.regs 1), iv (reg t.regs 2), iv (reg t.regs 3), iv (reg t.regs 4), iv (reg t.regs 5), iv (reg t.regs 6), iv (reg t.regs 7), iv (reg t.regs 8), iv t.wait, iv t.chan, iv t.sys]
theorem Th.row_lt (t : Th) (m : Nat) : ltL m t.row = true := rfl
def waitB (t : Th) (st : Int) : Bool × Int :=
  if st ≠ 3 then (decide (t.wait = 0) && decide (t.chan = 0) && decide (t.sys = -1), 0)
  else if t.wait = 1 then (decide (t.sys = 6), 0)
  else if t.wait = 2 then (decide (t.chan = 0) && (decide (t.sys = 8) || decide (t.sys = 9)), 1)
  else if t.wait = 3 then (decide (t.chan = 0) && decide (t.sys = -1), 0)
  else (false, 0)
def waitsB (t : Th) (st rq : Int) : Bool := (waitB t st).1 && decide (rq = (waitB t st).2)
theorem waits_c (t : Th) (st rq : Int) : ACalls Tryz.prog 72 [.agg t.row, iv st, iv rq] [] (fun o H => o = .ret (.bool (waitsB t st rq)) ∧ H = []) := by
  refine ACalls.up ?_
  refine ACalls.intro (cs := [12]) (n := 67) Tryz.func72 rfl rfl rfl (by kernel_rfl) rfl ?_
  generalize hpost : (fun (o : Out) (H : Heap) => o = Out.ret (.bool (waitsB t st rq)) ∧ H = []) = post
  have fin : ∀ b H, b = waitsB t st rq → Up 0 post (.ret (.bool b)) H := fun b H h => finv rfl (by rw [← hpost, ← h]; exact ⟨rfl, rfl⟩) H
  simp only [go_sem,Th.row]
  refine seq_cut (fun _ : Unit => ((Ch.nil.put 2 (iv rq)).put 7 (iv (waitB t st).2)).put 8 (.bool (waitB t st).1)) (fun _ => []) (fun _ => True) (by kernel_rfl) ?_ ?_
  · intro K hK
    have nx : ∀ s' Z, s'.get 2 = iv rq → s'.get 7 = iv (waitB t st).2 → s'.get 8 = .bool (waitB t st).1 → K s' Z := fun s' Z h2 h7 h8 =>
      hK () _ _ trivial (Wk.drop (m := 0) (by simp [wkS, h2, h7, h8]) (Nat.zero_le _) (Nat.zero_le _) (by simp [chLt, AV.lt]) (by simp) (by simp))
    simp only [go_sem]
    refine condD_dec (fun h1 => ?_) (fun h1 => ?_)
    · simp only [go_sem]
      repeat' (first | (refine gD_dec (fun hg => ?_) (fun hg => ?_) <;> simp only [go_sem,hg]) | (refine condD_dec (fun hg => ?_) (fun hg => ?_) <;> simp only [go_sem,hg]))
      all_goals exact nx _ _ (by simp [Ch.get]) (by simp [Ch.get, waitB, *]) (by simp [Ch.get, waitB, *])
    have h1' : st = 3 := by simpa using h1
    simp only [go_sem]
    refine condD_dec (fun h2 => ?_) (fun h2 => ?_)
    · simp only [go_sem]
      exact nx _ _ (by simp [Ch.get]) (by simp [Ch.get, waitB, *]) (by simp [Ch.get, waitB, *])
    simp only [go_sem]
    refine condD_dec (fun h3 => ?_) (fun h3 => ?_)
    · simp only [go_sem]
      repeat' (first | (refine gD_dec (fun hg => ?_) (fun hg => ?_) <;> simp only [go_sem,hg]) | (refine condD_dec (fun hg => ?_) (fun hg => ?_) <;> simp only [go_sem,hg]))
      all_goals exact nx _ _ (by simp [Ch.get]) (by simp [Ch.get, waitB, *]) (by simp [Ch.get, waitB, *])
    simp only [go_sem]
    refine condD_dec (fun h4 => ?_) (fun h4 => ?_)
    · simp only [go_sem]
      repeat' (first | (refine gD_dec (fun hg => ?_) (fun hg => ?_) <;> simp only [go_sem,hg]) | (refine condD_dec (fun hg => ?_) (fun hg => ?_) <;> simp only [go_sem,hg]))
      all_goals exact nx _ _ (by simp [Ch.get]) (by simp [Ch.get, waitB, *]) (by simp [Ch.get, waitB, *])
    · simp only [go_sem]
      exact nx _ _ (by simp [Ch.get]) (by simp [Ch.get, waitB, *]) (by simp [Ch.get, waitB, *])
  · intro _ _
    simp only [go_sem]
    refine gD_bool (fun h1 => ?_) (fun h1 => ?_)
    · simp only [go_sem,h1]
      exact fin _ _ (by rw [waitsB, h1]; rfl)
    · simp only [go_sem,h1]
      exact fin _ _ (by rw [waitsB, h1]; rfl)
end Go.Proofs.YtigmnlnomhjecaaGreatDoor
set_option maxRecDepth 100000
set_option linter.unusedVariables false
set_option linter.unusedSimpArgs false
namespace Go.Proofs.YtigmnlnomhjecaaGreatDoor
open Go.AM
open Go.Glob (Bs)
structure Ck where
  now : Int
  rate : Int
structure Rq where
  tid : Int
  block : Int
  write : Bool
  at_ : Int
structure Kn where
  procs : List Pc
  thr : List Th
  clocks : List Ck
  sch : S
  blocks : List Bs
  queue : List Rq
def Ck.row (c : Ck) : List AV := [iv c.now, iv c.rate]
def Rq.row (r : Rq) : List AV := [iv r.tid, iv r.block, .bool r.write, iv r.at_]
abbrev blkR (b : Bs) : List AV := [.view false 1 (b.map rb)]
def Kn.row (k : Kn) : List AV := [.view false 6 (k.procs.map Pc.row), .view false 13 (k.thr.map Th.row), .view false 2 (k.clocks.map Ck.row), .view false 3 (k.sch.cpus.map Q.row), .view false 3 (k.sch.thr.map T.row), iv k.sch.quantum, .view false 1 (k.blocks.map blkR), .view false 4 (k.queue.map Rq.row)]
def Kn.av (k : Kn) : AV := .agg k.row
theorem Kn.row_lt (k : Kn) (m : Nat) : ltL m k.row = true := rfl
structure Kn.Sz (k : Kn) : Prop where
  procs : k.procs.length ≤ 9223372036854775807
  thr : k.thr.length ≤ 9223372036854775807
  clocks : k.clocks.length ≤ 9223372036854775807
  blocks : k.blocks.length ≤ 9223372036854775807
  queue : k.queue.length ≤ 9223372036854775807
  syms : ∀ p ∈ k.procs, p.syms.length ≤ 9223372036854775807
def sysAt (k : Kn) (i : Int) : Int := match k.thr[i.toNat]? with | some t => t.sys | none => 0
def stAt (k : Kn) (i : Nat) : Int := match k.sch.thr[i]? with | some t => t.st | none => 0
def qOk (k : Kn) (r : Rq) : Bool := decide (0 ≤ r.tid) && decide (r.tid < k.thr.length) && decide (0 ≤ r.block) && decide (r.block < k.blocks.length) && (r.write == decide (sysAt k r.tid = 9))
def bump (c : List Int) (i : Nat) : List Int := c.set i (iw .i64 (reg c i + 1))
def goQ (k : Kn) : List Rq → List Int → Option (List Int)
  | [], c => some c
  | r :: l, c => if qOk k r = true then goQ k l (bump c r.tid.toNat) else none
def thOk (k : Kn) (c : List Int) (t : Th) (i : Nat) : Bool := decide (0 ≤ t.pid) && decide (t.pid < k.procs.length) && waitsB t (stAt k i) (reg c i)
def lvAt (v : List Bool) (i : Nat) : Bool := (v[i]?).getD false
def goT (k : Kn) (c : List Int) : List Th → Nat → List Bool → Option (List Bool)
  | [], _, v => some v
  | t :: l, i, v => if thOk k c t i = true then goT k c l (i + 1) (v.set t.pid.toNat (lvAt v t.pid.toNat || !decide (stAt k i = 4))) else none
def goP (v : List Bool) : List Pc → Nat → Bool
  | [], _ => true
  | p :: l, i => if p.dead = lvAt v i then false else goP v l (i + 1)
def thrOk (k : Kn) : Bool := match goQ k k.queue (List.replicate k.thr.length 0) with
  | none => false
  | some c => match goT k c k.thr 0 (List.replicate k.procs.length false) with
    | none => false
    | some v => goP v k.procs 0
abbrev rbl (b : Bool) : List AV := [.bool b]
theorem rbl_lt (l : List Bool) : ∀ row ∈ l.map rbl, ltL 0 row = true := rows_lt (fun _ => rfl) l
def z0 (n : Nat) : List Int := List.replicate n 0
def f0 (n : Nat) : List Bool := List.replicate n false
theorem z0_rows (n : Nat) : List.replicate n [iv 0] = (z0 n).map r1 := by simp [z0]
theorem f0_rows (n : Nat) : List.replicate n [AV.bool false] = (f0 n).map rbl := by simp [f0]
theorem set_r1 (c : List Int) (i : Nat) (x : Int) : (c.map r1).set i (r1 x) = (c.set i x).map r1 := by rw [List.map_set]
theorem set_rbl (c : List Bool) (i : Nat) (x : Bool) : (c.map rbl).set i (rbl x) = (c.set i x).map rbl := by rw [List.map_set]
theorem reg_at {c : List Int} {i : Nat} (h : i < c.length) : c[i]? = some (reg c i) := by
  obtain ⟨x, hx⟩ := at_lt h
  rw [reg, hx]; rfl
theorem lv_at {c : List Bool} {i : Nat} (h : i < c.length) : c[i]? = some (lvAt c i) := by
  obtain ⟨x, hx⟩ := at_lt h
  rw [lvAt, hx]; rfl
theorem kb_lt (k : Kn) (m : Nat) : (Blk.rows 8 [k.row]).lt m := by simp [Blk.lt, Kn.row_lt]
theorem r1_blt (c : List Int) (m : Nat) : (Blk.rows 1 (c.map r1)).lt m := blt0 (r1_lt0 c)
theorem rbl_blt (c : List Bool) (m : Nat) : (Blk.rows 1 (c.map rbl)).lt m := blt0 (rbl_lt c)
theorem kh_lt (k : Kn) (c : List Int) (m : Nat) : ∀ b ∈ ([.rows 8 [k.row], .rows 1 (c.map r1)] : Heap), b.lt m := by
  intro b hb
  rcases List.mem_cons.1 hb with rfl | hb
  · exact kb_lt k m
  · rw [List.mem_singleton.1 hb]; exact r1_blt c m
theorem kh3_lt (k : Kn) (c : List Int) (v : List Bool) (m : Nat) : ∀ b ∈ ([.rows 8 [k.row], .rows 1 (c.map r1), .rows 1 (v.map rbl)] : Heap), b.lt m := by
  intro b hb
  rcases List.mem_cons.1 hb with rfl | hb
  · exact kb_lt k m
  rcases List.mem_cons.1 hb with rfl | hb
  · exact r1_blt c m
  · rw [List.mem_singleton.1 hb]; exact rbl_blt v m
theorem threads_c (k : Kn) (hz : k.Sz) (h8 : k.procs.length ≤ 8) (h16 : k.sch.thr.length ≤ 16) (hth : k.thr.length = k.sch.thr.length) : ACalls Tryz.prog 47 [k.av] [] (fun o H => o = .ret (.bool (thrOk k)) ∧ H = []) := by
  refine ACalls.up ?_
  refine ACalls.intro (cs := []) (n := 140) Tryz.func47 rfl rfl rfl (by kernel_rfl) rfl ?_
  generalize hpost : (fun (o : Out) (H : Heap) => o = Out.ret (.bool (thrOk k)) ∧ H = []) = post
  have fin : ∀ b H, b = thrOk k → Up 0 post (.ret (.bool b)) H := fun b H h => finv rfl (by rw [← hpost, ← h]; exact ⟨rfl, rfl⟩) H
  simp only [go_sem,Kn.av,Kn.row,List.length_map]
  refine rK_chkI ⟨by omega, by omega, by omega⟩ ?_
  simp only [go_sem,z0_rows,List.length_map]
  refine loop_fam (fun q : Nat × List Int => ((((Ch.nil.put 1 (.ptr 0 0 0)).put 3 (.sl 1 0 k.thr.length none)).put 18 (.view false 4 (k.queue.map Rq.row))).put 19 (iv k.queue.length)).put 20 (iv q.1))
    (fun q => [.rows 8 [k.row], .rows 1 (q.2.map r1)]) (fun q => k.queue.length - q.1) (fun q => q.1 ≤ k.queue.length ∧ q.2.length = k.thr.length ∧ goQ k k.queue (List.replicate k.thr.length 0) = goQ k (k.queue.drop q.1) q.2) (0, z0 k.thr.length) (by kernel_rfl) ⟨Nat.zero_le _, by simp [z0], rfl⟩ ?_ ?_
  · exact (Wk.slots' (s' := (((((Ch.nil.put 1 (.ptr 0 0 0)).put 3 (.sl 1 0 k.thr.length (some k.thr.length))).put 18 (.view false 4 (k.queue.map Rq.row))).put 19 (iv k.queue.length)).put 20 (iv 0))) rfl (by simp [wkS, Ch.get])).trans (Wk.le (.cons _ (.cons _ (.cons _ (.cons _ (.cons _ (LeC.refl _) (.refl _)) (.cap _ _ _ _)) (.refl _)) (.refl _)) (.refl _)) (LeH.refl _))
  rintro ⟨i, c⟩ ⟨hi, hcl, hinv⟩ K hK
  simp only at hi hcl hinv
  have hq64 := hz.queue
  simp only [go_sem]
  refine condD_dec (fun hd => ?_) (fun hd => ?_)
  · have hi' : i < k.queue.length := by omega
    obtain ⟨r, hr⟩ := at_lt hi'
    rw [Go.AM.drop_at hr, goQ] at hinv
    have e1 : iw .i64 ((i : Int) + 1) = ((i + 1 : Nat) : Int) := by rw [iw64] <;> omega
    have g1 : (0 : Int) ≤ (i : Int) ∧ (i : Int) < k.queue.length := by omega
    have bad : qOk k r = false → ∀ H, Up 0 post (.ret (.bool false)) H := fun h H => fin _ _ (by rw [thrOk, hinv, h]; rfl)
    simp only [go_sem,g1,List.length_map,List.getElem?_map,hr,Rq.row]
    by_cases q1 : r.tid < 0
    · refine draw [.qu 0 0, .qu 0 0, .qu 0 0, .qu 0 0, .qu 0 0, .qu 0 0, .qu 0 0, .qu 0 0, .qu 0 0, .qu 0 0, .qu 0 0, .qu 0 0, .qu 0 0, .qu 0 0, .qu 0 0, .qu 0 0, .qu 0 0, .qu 0 0, .qu 0 0, .qu 0 0, .qu 0 0, .qu 0 0, .qu 0 0, .qu 0 0, .qu 0 0, .qu 0 0, .qu 0 0, .qu 0 0, .qu 0 0, .qu 0 0, .qu 0 0, .qu 0 0, .qu 0 0, .qu 0 0, .qu 0 0, .qu 0 0, .qu 0 0, .qu 0 0] (by kernel_rfl) (by kernel_rfl) ?_
      simp only [go_sem,Kn.row,eq_true q1]
      exact bad (by have : ¬ 0 ≤ r.tid := by omega
                    simp [qOk, this]) _
    by_cases q2 : (k.thr.length : Int) ≤ r.tid
    · refine draw [.qu 0 0, .qu 0 0, .qu 0 0, .qu 0 0, .qu 0 0, .qu 0 0, .qu 0 0, .qu 0 0, .qu 0 0, .qu 0 0, .qu 0 0, .qu 0 0, .qu 0 0, .qu 0 0, .qu 0 0, .qu 0 0, .qu 0 0, .qu 0 0, .qu 0 0, .qu 0 0, .qu 0 0, .qu 0 0, .qu 0 0, .qu 0 0, .qu 0 0, .qu 0 0, .qu 0 0, .qu 0 0, .qu 0 0, .qu 0 0, .qu 0 0, .qu 0 0, .qu 0 0, .qu 0 0, .qu 0 0, .qu 0 0, .qu 0 0, .qu 0 0] (by kernel_rfl) (by kernel_rfl) ?_
      simp only [go_sem,Kn.row,q1,List.length_map,eq_true q2,ge_iff_le]
      exact bad (by have : ¬ r.tid < k.thr.length := by omega
                    simp [qOk, this]) _
    by_cases q3 : r.block < 0
    · refine draw [.qu 0 0, .qu 0 0, .qu 0 0, .qu 0 0, .qu 0 0, .qu 0 0, .qu 0 0, .qu 0 0, .qu 0 0, .qu 0 0, .qu 0 0, .qu 0 0, .qu 0 0, .qu 0 0, .qu 0 0, .qu 0 0, .qu 0 0, .qu 0 0, .qu 0 0, .qu 0 0, .qu 0 0, .qu 0 0, .qu 0 0, .qu 0 0, .qu 0 0, .qu 0 0, .qu 0 0, .qu 0 0, .qu 0 0, .qu 0 0, .qu 0 0, .qu 0 0, .qu 0 0, .qu 0 0, .qu 0 0, .qu 0 0, .qu 0 0, .qu 0 0] (by kernel_rfl) (by kernel_rfl) ?_
      simp only [go_sem,Kn.row,q1,List.length_map,q2,ge_iff_le,eq_true q3]
      exact bad (by have : ¬ 0 ≤ r.block := by omega
                    simp [qOk, this]) _
    by_cases q4 : (k.blocks.length : Int) ≤ r.block
    · refine draw [.qu 0 0, .qu 0 0, .qu 0 0, .qu 0 0, .qu 0 0, .qu 0 0, .qu 0 0, .qu 0 0, .qu 0 0, .qu 0 0, .qu 0 0, .qu 0 0, .qu 0 0, .qu 0 0, .qu 0 0, .qu 0 0, .qu 0 0, .qu 0 0, .qu 0 0, .qu 0 0, .qu 0 0, .qu 0 0, .qu 0 0, .qu 0 0, .qu 0 0, .qu 0 0, .qu 0 0, .qu 0 0, .qu 0 0, .qu 0 0, .qu 0 0, .qu 0 0, .qu 0 0, .qu 0 0, .qu 0 0, .qu 0 0, .qu 0 0, .qu 0 0] (by kernel_rfl) (by kernel_rfl) ?_
      simp only [go_sem,Kn.row,q1,List.length_map,q2,ge_iff_le,q3,eq_true q4]
      exact bad (by have : ¬ r.block < k.blocks.length := by omega
                    simp [qOk, this]) _
    obtain ⟨tt, ht⟩ := at_lt (l := k.thr) (i := r.tid.toNat) (by omega)
    have hsys : sysAt k r.tid = tt.sys := by rw [sysAt, ht]
    have g2 : 0 ≤ r.tid ∧ r.tid < k.thr.length := by omega
    refine draw [.qu 0 0, .qu 0 0, .qu 0 0, .qu 0 0, .qu 0 0, .qu 0 0, .qu 0 0, .qu 0 0, .qu 0 0, .qu 0 0, .qu 0 0, .qu 0 0, .qu 0 0, .qu 0 0, .qu 0 0, .qu 0 0, .qu 0 0, .qu 0 0, .qu 0 0, .qu 0 0, .qu 0 0, .qu 0 0, .qu 0 0, .qu 0 0, .qu 0 0, .qu 0 0, .qu 0 0, .qu 0 0, .qu 0 0, .qu 0 0, .qu 0 0, .qu 0 0, .qu 0 0, .qu 0 0, .qu 0 0, .qu 0 0, .qu 0 0, .qu 0 0] (by kernel_rfl) (by kernel_rfl) ?_
    simp only [go_sem,Kn.row,q1,List.length_map,q2,ge_iff_le,q3,q4,g2,List.getElem?_map,ht,Th.row]
    have b1 : 0 ≤ r.tid := by omega
    have b2 : r.tid < k.thr.length := by omega
    have b3 : 0 ≤ r.block := by omega
    have b4 : r.block < k.blocks.length := by omega
    refine condD_bool (fun q5 => ?_) (fun q5 => ?_)
    · simp only [go_sem]
      exact bad (by rw [qOk, hsys]; revert q5; cases r.write <;> cases decide (tt.sys = 9) <;> simp) _
    · have hok : qOk k r = true := by
        rw [qOk, hsys]
        have : (r.write == decide (tt.sys = 9)) = true := by revert q5; cases r.write <;> cases decide (tt.sys = 9) <;> simp
        simp [b1, b2, b3, b4, this]
      have hcx := reg_at (c := c) (i := r.tid.toNat) (by omega)
      have g3 : r.tid.toNat < c.length := by omega
      simp only [go_sem,List.length_map,g2,List.getElem?_map,hcx,e1,g3,set_r1]
      refine hK (i + 1, bump c r.tid.toNat) _ _ ⟨hi', by simp [bump, hcl], by rw [hinv, if_pos hok]⟩ (by simp; omega) (Wk.drop (m := 2) (by simp [wkS, Ch.get]) (Nat.zero_le _) (by simp) (by simp [chLt, AV.lt]) rfl (kh_lt _ _ _))
  · have : i = k.queue.length := by omega
    subst this
    rw [List.drop_length, goQ] at hinv
    simp only [go_sem,Kn.row,List.length_map]
    refine rK_chkI ⟨by omega, by omega, by omega⟩ ?_
    simp only [go_sem,f0_rows,List.length_map]
    have hinv2 : thrOk k = match goT k c k.thr 0 (List.replicate k.procs.length false) with | none => false | some v => goP v k.procs 0 := by rw [thrOk, hinv]
    refine loop_fam (fun q : Nat × List Bool => (((((Ch.nil.put 1 (.ptr 0 0 0)).put 3 (.sl 1 0 k.thr.length none)).put 6 (.sl 2 0 k.procs.length none)).put 75 (.view false 13 (k.thr.map Th.row))).put 76 (iv k.thr.length)).put 77 (iv q.1))
      (fun q => [.rows 8 [k.row], .rows 1 (c.map r1), .rows 1 (q.2.map rbl)]) (fun q => k.thr.length - q.1) (fun q => q.1 ≤ k.thr.length ∧ q.2.length = k.procs.length ∧ goT k c k.thr 0 (List.replicate k.procs.length false) = goT k c (k.thr.drop q.1) q.1 q.2) (0, f0 k.procs.length) (by kernel_rfl) ⟨Nat.zero_le _, by simp [f0], rfl⟩ ?_ ?_
    · exact (Wk.slots' (s' := ((((((Ch.nil.put 1 (.ptr 0 0 0)).put 3 (.sl 1 0 k.thr.length none)).put 6 (.sl 2 0 k.procs.length (some k.procs.length))).put 75 (.view false 13 (k.thr.map Th.row))).put 76 (iv k.thr.length)).put 77 (iv 0))) rfl (by simp [wkS, Ch.get])).trans (Wk.le (.cons _ (.cons _ (.cons _ (.cons _ (.cons _ (.cons _ (LeC.refl _) (.refl _)) (.refl _)) (.cap _ _ _ _)) (.refl _)) (.refl _)) (.refl _)) (LeH.refl _))
    rintro ⟨i, v⟩ ⟨hi, hvl, hiv⟩ K2 hK2
    simp only at hi hvl hiv
    simp only [go_sem]
    refine condD_dec (fun hd2 => ?_) (fun hd2 => ?_)
    · have hi' : i < k.thr.length := by omega
      obtain ⟨x, hx⟩ := at_lt hi'
      obtain ⟨sl, hsl⟩ := at_lt (l := k.sch.thr) (i := i) (by omega)
      have hst : stAt k i = sl.st := by rw [stAt, hsl]
      rw [Go.AM.drop_at hx, goT] at hiv
      have e1 : iw .i64 ((i : Int) + 1) = ((i + 1 : Nat) : Int) := by rw [iw64] <;> omega
      have g1 : (0 : Int) ≤ (i : Int) ∧ (i : Int) < k.thr.length := by omega
      have g2 : (0 : Int) ≤ (i : Int) ∧ (i : Int) < k.sch.thr.length := by omega
      have hcx := reg_at (c := c) (i := i) (by omega)
      have bad : thOk k c x i = false → ∀ H, Up 0 post (.ret (.bool false)) H := fun h H => fin _ _ (by rw [hinv2, hiv, h]; rfl)
      simp only [go_sem,g1,List.length_map,List.getElem?_map,hx,Th.row,Kn.row,g2,hsl,T.row]
      by_cases q1 : x.pid < 0
      · refine draw [.qu 0 0, .qu 0 0, .qu 0 0, .qu 0 0, .qu 0 0, .qu 0 0, .qu 0 0, .qu 0 0, .qu 0 0, .qu 0 0, .qu 0 0, .qu 0 0, .qu 0 0, .qu 0 0, .qu 0 0, .qu 0 0, .qu 0 0, .qu 0 0, .mn 0, .qu 1 1, .qu 1 1] (by kernel_rfl) (by kernel_rfl) ?_
        simp only [go_sem,eq_true q1]
        exact bad (by have : ¬ 0 ≤ x.pid := by omega
                      simp [thOk, this]) _
      by_cases q2 : (k.procs.length : Int) ≤ x.pid
      · refine draw [.qu 0 0, .qu 0 0, .qu 0 0, .qu 0 0, .qu 0 0, .qu 0 0, .qu 0 0, .qu 0 0, .qu 0 0, .qu 0 0, .qu 0 0, .qu 0 0, .qu 0 0, .qu 0 0, .qu 0 0, .qu 0 0, .qu 0 0, .qu 0 0, .mn 0, .qu 1 1, .qu 1 1] (by kernel_rfl) (by kernel_rfl) ?_
        simp only [go_sem,q1,List.length_map,eq_true q2,ge_iff_le]
        exact bad (by have : ¬ x.pid < k.procs.length := by omega
                      simp [thOk, this]) _
      have b1 : 0 ≤ x.pid := by omega
      have b2 : x.pid < k.procs.length := by omega
      refine draw [.qu 0 0, .qu 0 0, .qu 0 0, .qu 0 0, .qu 0 0, .qu 0 0, .qu 0 0, .qu 0 0, .qu 0 0, .qu 0 0, .qu 0 0, .qu 0 0, .qu 0 0, .qu 0 0, .qu 0 0, .qu 0 0, .qu 0 0, .qu 0 0, .mn 0, .qu 1 1, .qu 1 1] (by kernel_rfl) (by kernel_rfl) ?_
      simp only [go_sem,q1,List.length_map,q2,ge_iff_le,g1,List.getElem?_map,hcx]
      refine dM_call (Go.AM.enters_of Tryz.func72 rfl (by decide)) (ACalls.pure_use (waits_c x sl.st (reg c i)) (by simp [ltL, AV.lt, Th.row_lt]) rfl) ?_
      simp only [go_sem]
      refine condD_bool (fun q3 => ?_) (fun q3 => ?_)
      · simp only [go_sem]
        exact bad (by have : waitsB x sl.st (reg c i) = false := by simpa using q3
                      simp [thOk, hst, this]) _
      · have q3 : waitsB x sl.st (reg c i) = true := by simpa using q3
        have hok : thOk k c x i = true := by simp [thOk, hst, b1, b2, q3]
        have g4 : 0 ≤ x.pid ∧ x.pid < k.procs.length := ⟨b1, b2⟩
        have hlv := lv_at (c := v) (i := x.pid.toNat) (by omega)
        have g5 : x.pid.toNat < v.length := by omega
        have next : ∀ (w : Bool) (Z : Heap) (s' : Ch), w = (lvAt v x.pid.toNat || !decide (stAt k i = 4)) → wkS (((((((Ch.nil.put 1 (.ptr 0 0 0)).put 3 (.sl 1 0 k.thr.length none)).put 6 (.sl 2 0 k.procs.length none)).put 75 (.view false 13 (k.thr.map Th.row))).put 76 (iv k.thr.length)).put 77 (iv (i + 1 : Nat)))) s' → K2 s' (.rows 8 [k.row] :: .rows 1 (c.map r1) :: .rows 1 ((v.set x.pid.toNat w).map rbl) :: Z) := fun w Z s' hw hs' => by
          subst hw
          exact hK2 (i + 1, v.set x.pid.toNat (lvAt v x.pid.toNat || !decide (stAt k i = 4))) _ _ ⟨hi', by simp [hvl], by rw [hiv, if_pos hok]⟩ (by simp; omega) (Wk.drop (m := 3) hs' (Nat.zero_le _) (by simp) (by simp [chLt, AV.lt]) rfl (kh3_lt _ _ _ _))
        cases hlw : lvAt v x.pid.toNat with
        | true =>
          refine draw [.qu 0 0, .qu 0 0, .qu 0 0, .qu 0 0, .qu 0 0, .qu 0 0, .qu 0 0, .qu 0 0, .qu 0 0, .qu 0 0, .qu 0 0, .qu 0 0, .qu 0 0, .mn 0] (by kernel_rfl) (by kernel_rfl) ?_
          simp only [go_sem,g4,List.length_map,List.getElem?_map,hlv,hlw,g5,set_rbl,e1]
          exact next _ _ _ (by rw [hlw]; rfl) (by simp [wkS, Ch.get])
        | false =>
          refine draw [.qu 0 0, .qu 0 0, .qu 0 0, .qu 0 0, .qu 0 0, .qu 0 0, .qu 0 0, .qu 0 0, .qu 0 0, .qu 0 0, .qu 0 0, .qu 0 0, .qu 0 0, .mn 0] (by kernel_rfl) (by kernel_rfl) ?_
          simp only [go_sem,g4,List.length_map,List.getElem?_map,hlv,hlw,g5,set_rbl,e1]
          exact next _ _ _ (by rw [hlw, hst]; simp) (by simp [wkS, Ch.get])
    · have : i = k.thr.length := by omega
      subst this
      rw [List.drop_length, goT] at hiv
      rw [hiv] at hinv2
      simp only at hinv2
      simp only [go_sem,Kn.row,List.length_map]
      refine loop_fam (fun i : Nat => (((Ch.nil.put 6 (.sl 2 0 k.procs.length none)).put 125 (.view false 6 (k.procs.map Pc.row))).put 126 (iv k.procs.length)).put 127 (iv i))
        (fun _ => [.rows 8 [k.row], .rows 1 (c.map r1), .rows 1 (v.map rbl)]) (fun i => k.procs.length - i) (fun i => i ≤ k.procs.length ∧ goP v k.procs 0 = goP v (k.procs.drop i) i) 0 (by kernel_rfl) ⟨Nat.zero_le _, rfl⟩ (Wk.slots' rfl (by simp [wkS, Ch.get])) ?_
      rintro i ⟨hi, hip⟩ K3 hK3
      simp only [go_sem]
      refine condD_dec (fun hd3 => ?_) (fun hd3 => ?_)
      · have hi' : i < k.procs.length := by omega
        obtain ⟨x, hx⟩ := at_lt hi'
        rw [Go.AM.drop_at hx, goP] at hip
        have e1 : iw .i64 ((i : Int) + 1) = ((i + 1 : Nat) : Int) := by rw [iw64] <;> omega
        have g1 : (0 : Int) ≤ (i : Int) ∧ (i : Int) < k.procs.length := by omega
        have hlv := lv_at (c := v) (i := i) (by omega)
        simp only [go_sem,g1,List.length_map,List.getElem?_map,hx,Pc.row]
        refine draw [.qu 0 0, .qu 0 0, .qu 0 0, .qu 0 0, .qu 0 0, .qu 0 0, .qu 0 0] (by kernel_rfl) (by kernel_rfl) ?_
        simp only [go_sem,g1,List.length_map,List.getElem?_map,hlv]
        refine condD_bool (fun q1 => ?_) (fun q1 => ?_)
        · simp only [go_sem]
          exact fin _ _ (by rw [hinv2, hip, if_pos (by simpa using q1)])
        · simp only [go_sem,e1]
          exact hK3 (i + 1) _ _ ⟨hi', by rw [hip, if_neg (by simpa using q1)]⟩ (by omega) (Wk.drop (m := 3) (by simp [wkS, Ch.get]) (Nat.zero_le _) (by simp) (by simp [chLt, AV.lt]) rfl (kh3_lt _ _ _ _))
      · simp only [go_sem]
        refine fin _ _ ?_
        rw [hinv2, hip, List.drop_eq_nil_of_le (by omega)]
        rfl
end Go.Proofs.YtigmnlnomhjecaaGreatDoor
set_option maxRecDepth 100000
set_option linter.unusedVariables false
set_option linter.unusedSimpArgs false
namespace Go.Proofs.YtigmnlnomhjecaaGreatDoor
open Go.AM
open Go.Glob (Bs)
theorem blk16_c (b : Bs) : ACalls Tryz.prog 45 [.view false 1 (b.map rb)] [] (fun o H => o = .ret (.bool (decide ¬ ((b.length : Int) = 16))) ∧ H = []) := by
  refine ACalls.up ?_
  refine ACalls.intro (cs := []) (n := 6) Tryz.func45 rfl rfl rfl (by kernel_rfl) rfl ?_
  simp only [go_sem,List.length_map]
  exact finv rfl ⟨by simp, rfl⟩ _
def badB (b : Bs) : Bool := decide ¬ ((b.length : Int) = 16)
theorem idxB_c (l : List Bs) (hl : l.length ≤ 9223372036854775807) : ACalls Tryz.prog 69 [.view false 1 (l.map blkR), .func (.func 45) [] []] [] (fun o H => (∃ n, o = .ret (iv n) ∧ (0 ≤ n ↔ l.any badB = true)) ∧ H = []) := by
  refine ACalls.up ?_
  refine ACalls.intro (cs := []) (n := 19) Tryz.func69 rfl rfl rfl (by kernel_rfl) rfl ?_
  generalize hpost : (fun (o : Out) (H : Heap) => (∃ n, o = Out.ret (iv n) ∧ (0 ≤ n ↔ l.any badB = true)) ∧ H = []) = post
  have fin : ∀ n H, (0 ≤ n ↔ l.any badB = true) → Up 0 post (.ret (iv n)) H := fun n H h => finv rfl (by rw [← hpost]; exact ⟨⟨n, rfl, h⟩, rfl⟩) H
  simp only [go_sem,List.length_map]
  refine loop_fam (fun i : Nat => (((Ch.nil.put 0 (.view false 1 (l.map blkR))).put 1 (.func (.func 45) [] [])).put 7 (iv l.length)).put 8 (iv i)) (fun _ => []) (fun i => l.length - i) (fun i => i ≤ l.length ∧ (l.take i).any badB = false) 0 (by kernel_rfl) ⟨Nat.zero_le _, rfl⟩ (Wk.slots' rfl (by simp [wkS, Ch.get])) ?_
  rintro i ⟨hi, hno⟩ K hK
  simp only [go_sem]
  refine condD_dec (fun hd => ?_) (fun hd => ?_)
  · have hi' : i < l.length := by omega
    obtain ⟨b, hb⟩ := at_lt hi'
    have e1 : iw .i64 ((i : Int) + 1) = ((i + 1 : Nat) : Int) := by rw [iw64] <;> omega
    have g1 : (0 : Int) ≤ (i : Int) ∧ (i : Int) < l.length := by omega
    simp only [go_sem,g1,List.length_map,List.getElem?_map,hb]
    refine rK_use (Go.AM.enters_of Tryz.func45 rfl (by decide)) (ACalls.pure_use (blk16_c b) rfl rfl) ?_
    simp only [go_sem]
    refine condD_dec (fun h1 => ?_) (fun h1 => ?_)
    · simp only [go_sem]
      refine fin _ _ ⟨fun _ => ?_, fun _ => by omega⟩
      exact List.any_eq_true.2 ⟨b, List.mem_of_getElem? hb, by simp [badB, h1]⟩
    · simp only [go_sem,e1]
      refine hK (i + 1) _ _ ⟨hi', ?_⟩ (by omega) (Wk.slots' rfl (by simp [wkS, Ch.get]))
      rw [List.take_add_one, hb, List.any_append, hno]
      simp only [Option.toList_some, List.any_cons, List.any_nil, badB, h1, decide_false, Bool.or_self, not_true_eq_false]
  · simp only [go_sem]
    refine fin _ _ ⟨fun h => by omega, fun h => ?_⟩
    rw [List.take_of_length_le (by omega)] at hno
    rw [hno] at h; cases h
theorem contB_c (l : List Bs) (hl : l.length ≤ 9223372036854775807) : ACalls Tryz.prog 44 [.view false 1 (l.map blkR), .func (.func 45) [] []] [] (fun o H => o = .ret (.bool (l.any badB)) ∧ H = []) := by
  refine ACalls.up ?_
  refine ACalls.intro (cs := []) (n := 9) Tryz.func44 rfl rfl rfl (by kernel_rfl) rfl ?_
  simp only [go_sem]
  rw [rK_call]
  refine ⟨(Go.AM.enters_of Tryz.func69 rfl (by decide)), (idxB_c l hl).mono ?_⟩
  rintro o H2 ⟨⟨n, rfl, hn⟩, rfl⟩
  simp only [go_sem]
  refine finv rfl ⟨?_, rfl⟩ _
  congr 2
  cases h : l.any badB with
  | true => exact decide_eq_true (hn.2 h)
  | false => exact decide_eq_false (fun hc => by rw [hn.1 hc] at h; cases h)
def ckOk (c : Ck) : Bool := decide (1 ≤ c.rate) && decide (c.rate ≤ 9) && decide (0 ≤ c.now) && decide (c.now ≤ 1099511627776)
def kOk (k : Kn) : Bool := decide (1 ≤ k.procs.length ∧ k.procs.length ≤ 8) && k.sch.valid && decide (k.thr.length = k.sch.thr.length) && decide (k.clocks.length = k.sch.cpus.length)
  && decide (1 ≤ k.blocks.length ∧ k.blocks.length ≤ 16) && !k.blocks.any badB && k.clocks.all ckOk && k.procs.all pcOk && thrOk k
def kchk (k : Kn) : Int := if kOk k = true then 0 else 60
theorem kcheck_c (k : Kn) (hz : k.Sz) : ACalls Tryz.prog 31 [k.av] [] (fun o H => o = .ret (iv (kchk k)) ∧ H = []) := by
  refine ACalls.up ?_
  refine ACalls.intro (cs := []) (n := 101) Tryz.func31 rfl rfl rfl (by kernel_rfl) rfl ?_
  generalize hpost : (fun (o : Out) (H : Heap) => o = Out.ret (iv (kchk k)) ∧ H = []) = post
  have bad : kOk k = false → ∀ H, Up 0 post (.ret (iv 60)) H := fun h H => finv rfl (by rw [← hpost, kchk, h]; exact ⟨rfl, rfl⟩) H
  have good : kOk k = true → ∀ H, Up 0 post (.ret (iv 0)) H := fun h H => finv rfl (by rw [← hpost, kchk, h]; exact ⟨rfl, rfl⟩) H
  simp only [go_sem,Kn.av,Kn.row,List.length_map]
  refine gD_dec (fun h1 => ?_) (fun h1 => ?_)
  · simp only [go_sem,eq_true h1]
    exact bad (by have : ¬ 1 ≤ k.procs.length := by omega
                  simp [kOk, this]) _
  simp only [go_sem,h1,List.length_map]
  refine gD_dec (fun h2 => ?_) (fun h2 => ?_)
  · simp only [go_sem,eq_true h2]
    exact bad (by have : ¬ k.procs.length ≤ 8 := by omega
                  simp [kOk, this]) _
  have a1 : 1 ≤ k.procs.length ∧ k.procs.length ≤ 8 := by omega
  simp only [go_sem,h2,List.length_map]
  refine rK_use (Go.AM.enters_of Tryz.func43 rfl (by decide)) (ACalls.pure_use (Check_c k.sch) rfl (by split <;> rfl)) ?_
  cases hv : k.sch.valid with
  | false =>
    simp only [go_sem,show (if false = true then (0 : Int) else 50) = 50 from rfl]
    exact bad (by simp [kOk, hv]) _
  | true =>
  have h16 : k.sch.thr.length ≤ 16 := by
    have hv2 := hv
    unfold S.valid at hv2
    split at hv2
    · cases hv2
    · omega
  simp only [go_sem,show (if true = true then (0 : Int) else 50) = 0 from rfl,List.length_map]
  refine gD_dec (fun h3 => ?_) (fun h3 => ?_)
  · simp only [go_sem,eq_true h3]
    exact bad (by have : ¬ k.thr.length = k.sch.thr.length := by omega
                  simp [kOk, this]) _
  have a3 : k.thr.length = k.sch.thr.length := by omega
  simp only [go_sem,h3,List.length_map]
  refine condD_dec (fun h4 => ?_) (fun h4 => ?_)
  · simp only [go_sem]
    exact bad (by have : ¬ k.clocks.length = k.sch.cpus.length := by omega
                  simp [kOk, this]) _
  have a4 : k.clocks.length = k.sch.cpus.length := by omega
  simp only [go_sem,List.length_map]
  refine gD_dec (fun h5 => ?_) (fun h5 => ?_)
  · simp only [go_sem,eq_true h5]
    exact bad (by have : ¬ 1 ≤ k.blocks.length := by omega
                  simp [kOk, this]) _
  simp only [go_sem,h5,List.length_map]
  refine gD_dec (fun h6 => ?_) (fun h6 => ?_)
  · simp only [go_sem,eq_true h6]
    exact bad (by have : ¬ k.blocks.length ≤ 16 := by omega
                  simp [kOk, this]) _
  have a5 : 1 ≤ k.blocks.length ∧ k.blocks.length ≤ 16 := by omega
  simp only [go_sem,h6]
  refine rK_use (Go.AM.enters_of Tryz.func44 rfl (by decide)) (ACalls.pure_use (contB_c k.blocks hz.blocks) rfl rfl) ?_
  simp only [go_sem]
  refine condD_bool (fun h7 => ?_) (fun h7 => ?_)
  · simp only [go_sem]
    exact bad (by simp [kOk, h7]) _
  have hval : kOk k = (k.clocks.all ckOk && k.procs.all pcOk && thrOk k) := by
    simp only [kOk, a1, a3, a4, a5, hv, h7, and_self, decide_true, Bool.not_false, Bool.true_and]
  simp only [go_sem,List.length_map]
  refine loop_fam (fun i : Nat => (((Ch.nil.put 1 (.ptr 0 0 0)).put 62 (.view false 2 (k.clocks.map Ck.row))).put 63 (iv k.clocks.length)).put 64 (iv i)) (fun _ => [.rows 8 [k.row]]) (fun i => k.clocks.length - i) (fun i => i ≤ k.clocks.length ∧ (k.clocks.take i).all ckOk = true) 0 (by kernel_rfl) ⟨Nat.zero_le _, rfl⟩ (Wk.slots' rfl (by simp [wkS, Ch.get])) ?_
  rintro i ⟨hi, hall⟩ K hK
  have hc64 := hz.clocks
  simp only [go_sem]
  refine condD_dec (fun hd => ?_) (fun hd => ?_)
  · have hi' : i < k.clocks.length := by omega
    obtain ⟨x, hx⟩ := at_lt hi'
    have e1 : iw .i64 ((i : Int) + 1) = ((i + 1 : Nat) : Int) := by rw [iw64] <;> omega
    have g1 : (0 : Int) ≤ (i : Int) ∧ (i : Int) < k.clocks.length := by omega
    have bad2 : ckOk x = false → ∀ H, Up 0 post (.ret (iv 60)) H := fun h H => bad (by
      rw [hval, show k.clocks.all ckOk = false from by
        rw [Bool.eq_false_iff]
        exact all_not hx h]
      rfl) H
    simp only [go_sem,g1,List.length_map,List.getElem?_map,hx,Ck.row]
    refine gD_dec (fun q1 => ?_) (fun q1 => ?_)
    · simp only [go_sem,eq_true q1]
      exact bad2 (by have : ¬ 1 ≤ x.rate := by omega
                     simp [ckOk, this]) _
    simp only [go_sem,q1]
    refine gD_dec (fun q2 => ?_) (fun q2 => ?_)
    · simp only [go_sem,eq_true q2]
      exact bad2 (by have : ¬ x.rate ≤ 9 := by omega
                     simp [ckOk, this]) _
    simp only [go_sem,q2]
    refine gD_dec (fun q3 => ?_) (fun q3 => ?_)
    · simp only [go_sem,eq_true q3]
      exact bad2 (by have : ¬ 0 ≤ x.now := by omega
                     simp [ckOk, this]) _
    simp only [go_sem,q3]
    refine condD_dec (fun q4 => ?_) (fun q4 => ?_)
    · simp only [go_sem]
      exact bad2 (by have : ¬ x.now ≤ 1099511627776 := by omega
                     simp [ckOk, this]) _
    · simp only [go_sem,e1]
      refine hK (i + 1) _ _ ⟨hi', all_step hx hall ?_⟩ (by omega) (Wk.drop (m := 1) (by simp [wkS, Ch.get]) (Nat.zero_le _) (by simp) (by simp [chLt, AV.lt]) rfl (by simp [kb_lt]))
      have b1 : 1 ≤ x.rate := by omega
      have b2 : x.rate ≤ 9 := by omega
      have b3 : 0 ≤ x.now := by omega
      have b4 : x.now ≤ 1099511627776 := by omega
      simp [ckOk, b1, b2, b3, b4]
  have hcall : k.clocks.all ckOk = true := by rwa [List.take_of_length_le (by omega)] at hall
  simp only [go_sem,Kn.row,List.length_map]
  refine loop_fam (fun i : Nat => (((Ch.nil.put 1 (.ptr 0 0 0)).put 88 (.view false 6 (k.procs.map Pc.row))).put 89 (iv k.procs.length)).put 90 (iv i)) (fun _ => [.rows 8 [k.row]]) (fun i => k.procs.length - i) (fun i => i ≤ k.procs.length ∧ (k.procs.take i).all pcOk = true) 0 (by kernel_rfl) ⟨Nat.zero_le _, rfl⟩ (Wk.slots' rfl (by simp [wkS, Ch.get])) ?_
  rintro i ⟨hi2, hall2⟩ K2 hK2
  simp only [go_sem]
  refine condD_dec (fun hd2 => ?_) (fun hd2 => ?_)
  · have hi' : i < k.procs.length := by omega
    obtain ⟨x, hx⟩ := at_lt hi'
    have e1 : iw .i64 ((i : Int) + 1) = ((i + 1 : Nat) : Int) := by rw [iw64] <;> omega
    have g1 : (0 : Int) ≤ (i : Int) ∧ (i : Int) < k.procs.length := by omega
    simp only [go_sem,g1,List.length_map,List.getElem?_map,hx,Pc.row]
    refine rK_use (Go.AM.enters_of Tryz.func46 rfl (by decide)) (ACalls.pure_use (process_c x (hz.syms x (List.mem_of_getElem? hx))) rfl rfl) ?_
    simp only [go_sem]
    refine condD_bool (fun q1 => ?_) (fun q1 => ?_)
    · simp only [go_sem]
      have q1 : pcOk x = false := by simpa using q1
      exact bad (by
        rw [hval, hcall, show k.procs.all pcOk = false from by
          rw [Bool.eq_false_iff]
          exact all_not hx q1]
        rfl) _
    · have q1 : pcOk x = true := by simpa using q1
      simp only [go_sem,e1]
      exact hK2 (i + 1) _ _ ⟨hi', all_step hx hall2 q1⟩ (by omega) (Wk.drop (m := 1) (by simp [wkS, Ch.get]) (Nat.zero_le _) (by simp) (by simp [chLt, AV.lt]) rfl (by simp [kb_lt]))
  have hpall : k.procs.all pcOk = true := by rwa [List.take_of_length_le (by omega)] at hall2
  have hval2 : kOk k = thrOk k := by rw [hval, hcall, hpall]; rfl
  simp only [go_sem,Kn.row]
  refine rK_use (Go.AM.enters_of Tryz.func47 rfl (by decide)) (ACalls.pure_use (threads_c k hz (by omega) h16 a3) rfl rfl) ?_
  simp only [go_sem]
  refine condD_bool (fun q1 => ?_) (fun q1 => ?_)
  · simp only [go_sem]
    exact bad (by rw [hval2]; simpa using q1) _
  · simp only [go_sem]
    exact good (by rw [hval2]; simpa using q1) _
end Go.Proofs.YtigmnlnomhjecaaGreatDoor
set_option maxRecDepth 100000
set_option linter.unusedVariables false
set_option linter.unusedSimpArgs false
namespace Go.Proofs.YtigmnlnomhjecaaGreatDoor
open Go.AM
open Go.Glob (Bs)
def small1 (nm : Bs) (pm : List Int) (by_ : Bs) (sy : List Sy) (t : Th) (c : Ck) (x : Int) (sl : T) (q : Int) (b : Bs) : Kn :=
  { procs := [⟨nm, ⟨pm, by_⟩, sy, false, 0⟩], thr := [t], clocks := [c], sch := ⟨[⟨-1, 0, [x]⟩], [sl], q⟩, blocks := [b], queue := [] }
theorem cspace_c (pm : List Int) (by_ : Bs) (h3 : pm.length ≤ 1000) (h4 : by_.length ≤ 1000000) : ACalls Tryz.prog 86 [(Sp.mk pm by_).av] [] (fun o H => o = .ret (Sp.mk pm by_).av ∧ H = []) := by
  refine ACalls.up ?_
  refine ACalls.intro (cs := []) (n := 10) Tryz.func86 rfl rfl rfl (by kernel_rfl) rfl ?_
  simp only [go_sem,Sp.av]
  refine draw [.qu 0 0, .qu 0 0, .mn 0, .qu 0 1, .rd 0 1, .mn 1, .qu 2 2, .mn 2] (by kernel_rfl) (by kernel_rfl) ?_
  have a1 : pm.length ≤ 68719476736 := by omega
  have a2 : by_.length ≤ 68719476736 := by omega
  simp only [go_sem,List.length_map,and_false,if_false,a1,a2]
  refine up_two 2 1 (pm.map r1) 3 1 (by_.map rb) (by decide) rfl rfl (r1_lt0 _) (rb_lt0 _) (by simp [Out.fzOk, AV.fzOk, fzOkL]) (by simp [Out.fz, AV.fz, fzL, Out.fzOk, AV.fzOk, fzOkL]) (by simp [Out.fz, AV.fz, fzL, Out.lt, AV.lt, ltL]) ?_
  simp [Out.fz, AV.fz, fzL]
  rw [List.take_of_length_le (by simp), List.take_of_length_le (by simp)]
  exact ⟨rfl, rfl⟩
theorem clone1_c (nm : Bs) (pm : List Int) (by_ : Bs) (sy : List Sy) (t : Th) (c : Ck) (x : Int) (sl : T) (q : Int) (b : Bs) (h1 : pm.length ≤ 1000) (h2 : by_.length ≤ 1000000) (h3 : sy.length ≤ 1000) (h4 : b.length ≤ 1000) :
    ACalls Tryz.prog 57 [(small1 nm pm by_ sy t c x sl q b).av] [] (fun o H => o = .ret (small1 nm pm by_ sy t c x sl q b).av ∧ H = []) := by
  refine ACalls.up ?_
  refine ACalls.intro (cs := []) (n := 101) Tryz.func57 rfl rfl rfl (by kernel_rfl) rfl ?_
  generalize hpost : (fun (o : Out) (H : Heap) => o = Out.ret (small1 nm pm by_ sy t c x sl q b).av ∧ H = []) = post
  have a1 : sy.length ≤ 68719476736 := by omega
  have a2 : b.length ≤ 68719476736 := by omega
  simp only [go_sem,small1,Kn.av,Kn.row,w_loop]
  refine ⟨2, rounds_step (by kernel_rfl) ?_⟩
  simp only [go_sem,Pc.row]
  have hcs := cspace_c pm by_ h1 h2
  simp only [Sp.av] at hcs
  refine rK_use (Go.AM.enters_of Tryz.func86 rfl (by decide)) (ACalls.pure_use hcs rfl rfl) ?_
  simp only [go_sem,List.length_map,and_false,if_false,a1]
  refine rounds_step (by kernel_rfl) ?_
  have w1 : iw .i64 1 = 1 := rfl
  simp only [go_sem,w1,List.length_map,and_false,if_false,Th.row,Ck.row]
  refine draw [.qu 0 1, .qu 0 1, .rd 0 1, .qu 0 0, .qu 0 0, .qu 0 0, .mn 0, .qu 1 1, .qu 1 1, .mn 1] (by kernel_rfl) (by kernel_rfl) ?_
  simp only [go_sem,and_false,if_false,T.row,w_loop]
  refine ⟨2, rounds_step (by kernel_rfl) ?_⟩
  simp only [go_sem,Q.row,and_false,if_false]
  refine rounds_step (by kernel_rfl) ?_
  simp only [go_sem,w1,w_loop]
  refine ⟨2, rounds_step (by kernel_rfl) ?_⟩
  simp only [go_sem]
  refine draw [.qu 0 2, .qu 0 2, .rd 0 2, .qu 0 0, .mn 0, .mn 1, .mn 2, .qu 3 3, .qu 3 3, .mn 3] (by kernel_rfl) (by kernel_rfl) ?_
  simp only [go_sem,List.length_map,and_false,if_false,a2]
  refine rounds_step (by kernel_rfl) ?_
  simp only [go_sem,w1,and_false,if_false]
  refine Up.kill [0, 1, 2, 4, 9, 11, 14] _ ?_
  simp only [kill, List.set_cons_zero, List.set_cons_succ]
  have tk1 : List.take sy.length (sy.map Sy.row) = sy.map Sy.row := List.take_of_length_le (by simp)
  have tk2 : List.take b.length (b.map rb) = b.map rb := List.take_of_length_le (by simp)
  refine .fz 3 3 (sy.map Sy.row) rfl (fun row hr x hx => ltL_mem (Sy.rows_lt sy row hr) x hx) (by simp [Out.fzOk, AV.fzOk, fzOkL]) (by simp [Blk.fzOk, fzOkL, AV.fzOk]) ?_
  simp [Out.fz, AV.fz, fzL, Blk.fz, Function.comp_def, tk1, tk2]
  refine .fz 13 1 (b.map rb) rfl (rb_pure b) (by simp [Out.fzOk, AV.fzOk, fzOkL]) (by simp [Blk.fzOk, fzOkL, AV.fzOk]) ?_
  simp [Out.fz, AV.fz, fzL, Blk.fz, Function.comp_def, tk1, tk2]
  refine .fz 10 1 [[.int .i64 x]] rfl (by simp [AV.lt]) (by simp [Out.fzOk, AV.fzOk, fzOkL]) (by simp [Blk.fzOk, fzOkL, AV.fzOk]) ?_
  simp [Out.fz, AV.fz, fzL, Blk.fz, Function.comp_def, tk1, tk2]
  refine .fz 5 6 [[.str ⟨nm.toArray⟩, .view false 1 (pm.map r1), .view false 1 (by_.map rb), .view false 3 (sy.map Sy.row), .bool false, .int .i64 0]] rfl (by simp [AV.lt]) (by simp [Out.fzOk, AV.fzOk, fzOkL]) (by simp [Blk.fzOk, fzOkL, AV.fzOk]) ?_
  simp [Out.fz, AV.fz, fzL, Blk.fz, Function.comp_def, tk1, tk2]
  refine .fz 6 13 [[AV.int IntKind.i64 t.pid, AV.int IntKind.i64 (reg t.regs 0), AV.int IntKind.i64 (reg t.regs 1), AV.int IntKind.i64 (reg t.regs 2), AV.int IntKind.i64 (reg t.regs 3), AV.int IntKind.i64 (reg t.regs 4), AV.int IntKind.i64 (reg t.regs 5), AV.int IntKind.i64 (reg t.regs 6), AV.int IntKind.i64 (reg t.regs 7), AV.int IntKind.i64 (reg t.regs 8), AV.int IntKind.i64 t.wait, AV.int IntKind.i64 t.chan, AV.int IntKind.i64 t.sys]] rfl (by simp [AV.lt]) (by simp [Out.fzOk, AV.fzOk, fzOkL]) (by simp [Blk.fzOk, fzOkL, AV.fzOk]) ?_
  simp [Out.fz, AV.fz, fzL, Blk.fz, Function.comp_def, tk1, tk2]
  refine .fz 7 2 [[.int .i64 c.now, .int .i64 c.rate]] rfl (by simp [AV.lt]) (by simp [Out.fzOk, AV.fzOk, fzOkL]) (by simp [Blk.fzOk, fzOkL, AV.fzOk]) ?_
  simp [Out.fz, AV.fz, fzL, Blk.fz, Function.comp_def, tk1, tk2]
  refine .fz 8 3 [[.int .i64 sl.pri, .int .i64 sl.cpu, .int .i64 sl.st]] rfl (by simp [AV.lt]) (by simp [Out.fzOk, AV.fzOk, fzOkL]) (by simp [Blk.fzOk, fzOkL, AV.fzOk]) ?_
  simp [Out.fz, AV.fz, fzL, Blk.fz, Function.comp_def, tk1, tk2]
  refine .fz 12 3 [[.int .i64 (-1), .int .i64 0, .view false 1 [[.int .i64 x]]]] rfl (by simp [AV.lt]) (by simp [Out.fzOk, AV.fzOk, fzOkL]) (by simp [Blk.fzOk, fzOkL, AV.fzOk]) ?_
  simp [Out.fz, AV.fz, fzL, Blk.fz, Function.comp_def, tk1, tk2]
  refine .fz 15 1 [[.view false 1 (b.map rb)]] rfl (by simp [AV.lt]) (by simp [Out.fzOk, AV.fzOk, fzOkL]) (by simp [Blk.fzOk, fzOkL, AV.fzOk]) ?_
  simp [Out.fz, AV.fz, fzL, Blk.fz, Function.comp_def, tk1, tk2]
  refine .fz 16 4 [] rfl (by simp [AV.lt]) (by simp [Out.fzOk, AV.fzOk, fzOkL]) (by simp [Blk.fzOk, fzOkL, AV.fzOk]) ?_
  simp [Out.fz, AV.fz, fzL, Blk.fz, Function.comp_def, tk1, tk2]
  exact .gc 0 (Nat.le_refl _) (Nat.zero_le _) rfl (by simp) (.done (by rw [← hpost]; exact ⟨rfl, rfl⟩))
end Go.Proofs.YtigmnlnomhjecaaGreatDoor
set_option maxRecDepth 100000
set_option linter.unusedVariables false
set_option linter.unusedSimpArgs false
namespace Go.Proofs.YtigmnlnomhjecaaGreatDoor
open Go.AM
open Go.Glob (Bs)
def bo1 (nm : Bs) (pm : List Int) (by_ : Bs) (sy : List Sy) : AV := .agg [.view false 7 [[Sv nm, .view false 1 (pm.map r1), .view false 1 (by_.map rb), .view false 3 (sy.map Sy.row), iv 0, iv 128, iv 0]], .view false 1 [r1 1], iv 1, iv 4]
def b16 : Bs := List.replicate 16 0
def th1 : Th := ⟨0, [0, 0, 0, 0, 0, 0, 0, 128, 0], 0, 0, -1⟩
def kn1 (nm : Bs) (pm : List Int) (by_ : Bs) (sy : List Sy) : Kn := small1 nm pm by_ sy th1 ⟨0, 1⟩ 0 ⟨0, 0, 1⟩ 4 b16
def s0 : S := ⟨[⟨-1, 0, []⟩], [], 4⟩
def s1 : S := ⟨[⟨-1, 0, [0]⟩], [⟨0, 0, 1⟩], 4⟩
theorem new0_c : ACalls Tryz.prog 55 [iv 1, iv 4] [] (fun o H => o = .ret (.tuple [s0.av, iv 0]) ∧ H = []) := by
  have h := New_c 1 4
  rw [if_pos (by decide)] at h
  exact h
theorem add0_c : ACalls Tryz.prog 56 [s0.av, iv 0, iv 0] [] (fun o H => o = .ret (.tuple [s1.av, iv 0, iv 0]) ∧ H = []) := Add_c s0 0 0
theorem new1_c (nm : Bs) (pm : List Int) (by_ : Bs) (sy : List Sy) (h1 : pm.length ≤ 1000) (h2 : by_.length ≤ 1000000) (h3 : sy.length ≤ 1000) (hok : kOk (kn1 nm pm by_ sy) = true) :
    ACalls Tryz.prog 36 [bo1 nm pm by_ sy] [] (fun o H => o = .ret (.tuple [(kn1 nm pm by_ sy).av, iv 0]) ∧ H = []) := by
  refine ACalls.up ?_
  refine ACalls.intro (cs := [26]) (n := 137) Tryz.func36 rfl rfl rfl (by kernel_rfl) rfl ?_
  generalize hpost : (fun (o : Out) (H : Heap) => o = Out.ret (.tuple [(kn1 nm pm by_ sy).av, iv 0]) ∧ H = []) = post
  simp only [go_sem,bo1]
  refine rK_use (Go.AM.enters_of Tryz.func55 rfl (by decide)) (ACalls.pure_use new0_c rfl rfl) ?_
  simp only [go_sem,s0,S.av,w_loop]
  refine ⟨2, rounds_step (by kernel_rfl) ?_⟩
  simp only [go_sem]
  refine draw [.qu 0 0, .qu 0 0, .qu 0 0, .qu 0 0, .qu 0 0, .qu 0 0, .qu 0 0, .qu 0 0, .mn 0, .qu 1 1, .qu 1 1, .qu 1 2, .qu 1 2, .mn 1, .qu 2 2] (by kernel_rfl) (by kernel_rfl) ?_
  simp only [go_sem,show Int.tmod 0 1 = 0 from rfl]
  have hadd := add0_c
  simp only [s0, s1, S.av] at hadd
  refine dM_call (Go.AM.enters_of Tryz.func56 rfl (by decide)) (ACalls.pure_use hadd rfl rfl) ?_
  simp only [go_sem]
  refine draw [.qu 0 0, .qu 0 0, .qu 0 1, .rd 0 1, .qu 0 0, .qu 0 0, .qu 0 0, .mn 0, .qu 1 1, .qu 1 1, .mn 1] (by kernel_rfl) (by kernel_rfl) ?_
  simp only [go_sem]
  refine rounds_step (by kernel_rfl) ?_
  have w1 : iw .i64 1 = 1 := rfl
  simp only [go_sem,w1,w_loop]
  refine ⟨2, rounds_step (by kernel_rfl) ?_⟩
  simp only [go_sem]
  refine rounds_step (by kernel_rfl) ?_
  simp only [go_sem,w1,w_loop]
  refine ⟨2, rounds_step (by kernel_rfl) ?_⟩
  simp only [go_sem]
  refine draw [.qu 0 2, .qu 0 2, .rd 0 2, .mn 0, .mn 1, .mn 2, .qu 3 3, .qu 3 3, .mn 3] (by kernel_rfl) (by kernel_rfl) ?_
  simp only [go_sem]
  refine ⟨by decide, ?_⟩
  refine rounds_step (by kernel_rfl) ?_
  simp only [go_sem,w1]
  refine seq_cut (fun _ : Unit => (Ch.nil.put 2 (.ptr 1 0 0)).put 6 (.ptr 3 0 0)) (fun _ => [.dead, .rows 8 [[.view true 0 [], .view true 0 [], .view true 0 [], .view true 0 [], .view true 0 [], iv 0, .view true 0 [], .view true 0 []]], .dead, .rows 8 [(kn1 nm pm by_ sy).row]]) (fun _ => True) (by kernel_rfl) ?_ ?_
  · intro K hK
    simp only [go_sem,S.av]
    refine hK () _ _ trivial ?_
    refine Wk.trans (Wk.slots (s' := (Ch.nil.put 2 (.ptr 1 0 0)).put 6 (.ptr 3 0 0)) (by simp [wkS, Ch.get])) ?_
    refine Wk.trans (Wk.kill [0, 2, 4, 5, 6, 8, 10, 13]) ?_
    simp only [kill, List.set_cons_zero, List.set_cons_succ]
    refine Wk.trans (Wk.fz (r := 12) (sz := 1) (xs := [[.int .u8 0], [.int .u8 0], [.int .u8 0], [.int .u8 0], [.int .u8 0], [.int .u8 0], [.int .u8 0], [.int .u8 0], [.int .u8 0], [.int .u8 0], [.int .u8 0], [.int .u8 0], [.int .u8 0], [.int .u8 0], [.int .u8 0], [.int .u8 0]]) rfl (by simp [AV.lt]) (by simp [Blk.fzOk, fzOkL, AV.fzOk]) (by simp [chOk, AV.fzOk])) ?_
    simp [Ch.fz, AV.fz, fzL, Blk.fz, Function.comp_def]
    refine Wk.trans (Wk.fz (r := 14) (sz := 1) (xs := [[.view false 1 [[.int .u8 0], [.int .u8 0], [.int .u8 0], [.int .u8 0], [.int .u8 0], [.int .u8 0], [.int .u8 0], [.int .u8 0], [.int .u8 0], [.int .u8 0], [.int .u8 0], [.int .u8 0], [.int .u8 0], [.int .u8 0], [.int .u8 0], [.int .u8 0]]]]) rfl (by simp [AV.lt]) (by simp [Blk.fzOk, fzOkL, AV.fzOk]) (by simp [chOk, AV.fzOk])) ?_
    simp [Ch.fz, AV.fz, fzL, Blk.fz, Function.comp_def]
    refine Wk.trans (Wk.fz (r := 7) (sz := 13) (xs := [[.int .i64 0, .int .i64 0, .int .i64 0, .int .i64 0, .int .i64 0, .int .i64 0, .int .i64 0, .int .i64 0, .int .i64 128, .int .i64 0, .int .i64 0, .int .i64 0, .int .i64 (-1)]]) rfl (by simp [AV.lt]) (by simp [Blk.fzOk, fzOkL, AV.fzOk]) (by simp [chOk, AV.fzOk])) ?_
    simp [Ch.fz, AV.fz, fzL, Blk.fz, Function.comp_def]
    refine Wk.trans (Wk.fz (r := 9) (sz := 6) (xs := [[.str ⟨nm.toArray⟩, .view false 1 (pm.map r1), .view false 1 (by_.map rb), .view false 3 (sy.map Sy.row), .bool false, .int .i64 0]]) rfl (by simp [AV.lt]) (by simp [Blk.fzOk, fzOkL, AV.fzOk]) (by simp [chOk, AV.fzOk])) ?_
    simp [Ch.fz, AV.fz, fzL, Blk.fz, Function.comp_def]
    refine Wk.trans (Wk.fz (r := 11) (sz := 2) (xs := [[.int .i64 0, .int .i64 1]]) rfl (by simp [AV.lt]) (by simp [Blk.fzOk, fzOkL, AV.fzOk]) (by simp [chOk, AV.fzOk])) ?_
    simp [Ch.fz, AV.fz, fzL, Blk.fz, Function.comp_def]
    refine Wk.trans (Wk.take (m := 4) (by omega) (by simp) (by simp [chLt, AV.lt]) (by simp [Blk.lt, ltL, AV.lt])) ?_
    simp only [List.take_succ_cons, List.take_zero]
    refine Wk.leH (.cons (.refl _) (.cons (.refl _) (.cons (.refl _) (.cons (.rows 8 (.cons ?_ .nil)) .nil))))
    refine .cons (.refl _) (.cons (.refl _) (.cons (.refl _) (.cons (.refl _) (.cons (.refl _) (.cons (.refl _) (.cons (.refl _) (.cons (.nil true false 0 4 (by simp)) .nil)))))))
  · intro _ _
    have hz : (kn1 nm pm by_ sy).Sz := ⟨by simp [kn1, small1], by simp [kn1, small1], by simp [kn1, small1], by simp [kn1, small1], by simp [kn1, small1], by simp [kn1, small1]; omega⟩
    have hck : kchk (kn1 nm pm by_ sy) = 0 := by rw [kchk, if_pos hok]
    have hc1 := kcheck_c (kn1 nm pm by_ sy) hz
    rw [hck] at hc1
    have hc2 := clone1_c nm pm by_ sy th1 ⟨0, 1⟩ 0 ⟨0, 0, 1⟩ 4 b16 h1 h2 h3 (by simp [b16])
    simp only [go_sem,kn1,small1,Kn.row,List.map_cons,List.map_nil]
    refine rK_use (Go.AM.enters_of Tryz.func31 rfl (by decide)) (ACalls.pure_use hc1 rfl rfl) ?_
    simp only [go_sem]
    refine rK_use (Go.AM.enters_of Tryz.func57 rfl (by decide)) (ACalls.pure_use hc2 rfl rfl) ?_
    simp only [go_sem,small1,Kn.av,Kn.row,List.map_cons,List.map_nil]
    exact finv rfl (by rw [← hpost]; exact ⟨rfl, rfl⟩) _
end Go.Proofs.YtigmnlnomhjecaaGreatDoor
set_option maxRecDepth 100000
set_option linter.unusedVariables false
set_option linter.unusedSimpArgs false
namespace Go.Proofs.YtigmnlnomhjecaaGreatDoor
open Go.AM
open Go.Glob (Bs)
def b128 : Bs := 129 :: 157 :: List.replicate 126 0
def k1 : Kn := kn1 [112] [4, 3] b128 [⟨[102], 0, 4⟩]
theorem k1_ok : kOk k1 = true := by kernel_rfl
theorem one_c : ACalls Tryz.prog 22 [] [] (fun o H => o = .ret k1.av ∧ H = []) := by
  refine ACalls.up ?_
  refine ACalls.intro (cs := []) (n := 22) Tryz.func22 rfl rfl rfl (by kernel_rfl) rfl ?_
  generalize hpost : (fun (o : Out) (H : Heap) => o = Out.ret k1.av ∧ H = []) = post
  simp only [go_sem]
  rw [rK_call]
  refine ⟨(Go.AM.enters_of Tryz.func36 rfl (by decide)), ?_⟩
  have hbl : b128.length = 128 := rfl
  have tkb : List.take 128 (b128.map rb) = b128.map rb := List.take_of_length_le (by simp [b128])
  refine ACalls.pre_fz 2 (sz := 1) (xs := b128.map rb) rfl (rb_pure b128) (by simp [fzOkL, AV.fzOk]) (by simp [Blk.fzOk, fzOkL, AV.fzOk]; exact Nat.le_refl 128) ?_
  simp [fzL, AV.fz, Blk.fz, tkb]
  refine ACalls.pre_fz 3 (sz := 1) (xs := [[.int .i64 4], [.int .i64 3]]) rfl (by simp [AV.lt]) (by simp [fzOkL, AV.fzOk]) (by simp [Blk.fzOk, fzOkL, AV.fzOk]) ?_
  simp [fzL, AV.fz, Blk.fz, tkb]
  refine ACalls.pre_fz 4 (sz := 3) (xs := [[.str ⟨#[102]⟩, .int .i64 0, .int .i64 4]]) rfl (by simp [AV.lt]) (by simp [fzOkL, AV.fzOk]) (by simp [Blk.fzOk, fzOkL, AV.fzOk]) ?_
  simp [fzL, AV.fz, Blk.fz, tkb]
  refine ACalls.pre_fz 6 (sz := 7) (xs := [[.str ⟨#[112]⟩, .view false 1 [[.int .i64 4], [.int .i64 3]], .view false 1 (b128.map rb), .view false 3 [[.str ⟨#[102]⟩, .int .i64 0, .int .i64 4]], .int .i64 0, .int .i64 128, .int .i64 0]]) rfl (by simp [AV.lt]) (by simp [fzOkL, AV.fzOk]) (by simp [Blk.fzOk, fzOkL, AV.fzOk]) ?_
  simp [fzL, AV.fz, Blk.fz, tkb]
  refine ACalls.pre_fz 7 (sz := 1) (xs := [[.int .i64 1]]) rfl (by simp [AV.lt]) (by simp [fzOkL, AV.fzOk]) (by simp [Blk.fzOk, fzOkL, AV.fzOk]) ?_
  simp [fzL, AV.fz, Blk.fz, tkb]
  refine (ACalls.pure_use (new1_c [112] [4, 3] b128 [⟨[102], 0, 4⟩] (by decide) (by simp [b128]) (by decide) k1_ok) rfl rfl).mono ?_
  rintro o H2 ⟨rfl, rfl⟩
  simp only [go_sem,kn1,small1,Kn.av,Kn.row,List.map_cons,List.map_nil]
  exact finv rfl (by rw [← hpost]; exact ⟨rfl, rfl⟩) _
end Go.Proofs.YtigmnlnomhjecaaGreatDoor
