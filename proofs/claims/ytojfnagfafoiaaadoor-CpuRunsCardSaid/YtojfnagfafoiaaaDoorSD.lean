/- cpu: what an instruction does. No condition. -/
import Derived.Test.YtojfnagfafoiaaaDoorSC
set_option maxRecDepth 100000
set_option linter.unusedVariables false
set_option linter.unusedSimpArgs false
namespace Go.Proofs.YtojfnagfafoiaaaDoor
open Go.AM
structure Trp where
  kind : Int
  n : Int
  f : Flt
def Trp.cells (t : Trp) : List AV := [iv t.kind, iv t.n, iv t.f.kind, iv t.f.pos]
def trapV (t : Trp) : AV := .iface 135 (.agg t.cells)
def Acc.perm (a : Acc) : Int := if a.write = true then 2 else 1
/-- The first fault of a footprint. -/
def ffault (s : Sp) : List Acc → Flt
  | [] => ⟨0, 0⟩
  | a :: l => if (s.flt a.pos a.perm a.size.toNat 0).kind = 0 then ffault s l else s.flt a.pos a.perm a.size.toNat 0
theorem foot_size (x : Ins) (r : Rg) : ∀ a ∈ foot x r, a.size = 1 ∨ a.size = 8 := by
  unfold foot
  repeat' split
  all_goals simp
theorem ffault0 {s : Sp} : ∀ {l : List Acc}, (ffault s l).kind = 0 → ∀ a ∈ l, (s.flt a.pos a.perm a.size.toNat 0).kind = 0
  | [], _, a, h => by simp at h
  | b :: l, h, a, ha => by
    rw [ffault] at h
    split at h
    · rename_i h1
      rcases List.mem_cons.1 ha with rfl | ha
      · exact h1
      · exact ffault0 h a ha
    · rename_i h1; exact absurd h h1
theorem ffault_drop {s : Sp} {l : List Acc} {i : Nat} {a : Acc} (h : l[i]? = some a) : ffault s (l.drop i) = if (s.flt a.pos a.perm a.size.toNat 0).kind = 0 then ffault s (l.drop (i + 1)) else s.flt a.pos a.perm a.size.toNat 0 := by
  rw [drop_at h, ffault]
def permOut (f : Flt) (o : Out) : Prop := if f.kind = 0 then o = .ret (.tuple []) else o = .pan (trapV ⟨3, 0, f⟩)
theorem permit_c (p : Pr) (hx : p.x.ok) (hs : p.s.ok) (d : AV) (hd : d.lt 0 = true) :
    ACalls Tryd.prog 96 [.ptr 0 0 0] [.rows 31 [p.row d]] (fun o H => permOut (ffault p.s (foot p.x p.old)) o ∧ H = [.rows 31 [p.row d]]) := by
  refine ACalls.up ?_
  refine ACalls.intro (cs := []) (n := 43) Tryd.func96 rfl rfl rfl (by kernel_rfl) rfl ?_
  generalize hpost : (fun (o : Out) (H : Heap) => permOut (ffault p.s (foot p.x p.old)) o ∧ H = [.rows 31 [p.row d]]) = post
  simp only [go_sem,Nat.reduceAdd,Nat.reduceSub,Nat.reduceMul,Nat.reduceEqDiff,Nat.reduceLeDiff,Nat.reduceLT,↓reduceIte,Int.reduceToNat,reduceCtorEq,Int.reduceLT,Int.reduceLE,Int.reduceGT,Int.reduceGE,Int.reduceEq,Int.reduceNe,Int.reduceNeg,Int.reduceAdd,Int.reduceSub]
  refine draw [.qu 0 0, .qu 0 0, .qu 0 0, .qu 0 0, .qu 0 0, .qu 0 0, .qu 0 0, .qu 0 0, .qu 0 0, .qu 0 0, .qu 0 0] (by kernel_rfl) (by kernel_rfl) ?_
  simp only [go_sem,Nat.reduceAdd,Nat.reduceSub,Nat.reduceMul,Nat.reduceEqDiff,Nat.reduceLeDiff,Nat.reduceLT,↓reduceIte,Int.reduceToNat,reduceCtorEq,Int.reduceLT,Int.reduceLE,Int.reduceGT,Int.reduceGE,Int.reduceEq,Int.reduceNe,Int.reduceNeg,Int.reduceAdd,Int.reduceSub,Pr.row]
  refine y_call (enters_of Tryd.func74 rfl (by decide)) (fun _ => ACalls.pure_use (footprint_c p.x hx p.old) rfl (by simp [AV.lt])) ?_
  simp only [go_sem,Nat.reduceAdd,Nat.reduceSub,Nat.reduceMul,Nat.reduceEqDiff,Nat.reduceLeDiff,Nat.reduceLT,↓reduceIte,Int.reduceToNat,reduceCtorEq,Int.reduceLT,Int.reduceLE,Int.reduceGT,Int.reduceGE,Int.reduceEq,Int.reduceNe,Int.reduceNeg,Int.reduceAdd,Int.reduceSub,List.length_map]
  generalize hl : foot p.x p.old = l
  have hsz : ∀ a ∈ l, a.size = 1 ∨ a.size = 8 := hl ▸ foot_size p.x p.old
  have hll : l.length ≤ 2 := hl ▸ foot_len p.x p.old
  refine loop_fam (fun i : Nat => ((((Ch.nil.put 0 (.ptr 0 0 0)).put 14 (.view false 3 (l.map Acc.row))).put 15 (iv l.length)).put 16 (iv i))) (fun _ => [.rows 31 [p.row d]]) (fun i => l.length - i) (fun i => i ≤ l.length ∧ ffault p.s l = ffault p.s (l.drop i)) 0 (by kernel_rfl) ⟨Nat.zero_le _, rfl⟩
    (Wk.slots' rfl (by simp [wkS, Ch.get])) ?_
  rintro i ⟨hi, hf⟩ K hK
  simp only [go_sem,Nat.reduceAdd,Nat.reduceSub,Nat.reduceMul,Nat.reduceEqDiff,Nat.reduceLeDiff,Nat.reduceLT,↓reduceIte,Int.reduceToNat,reduceCtorEq,Int.reduceLT,Int.reduceLE,Int.reduceGT,Int.reduceGE,Int.reduceEq,Int.reduceNe,Int.reduceNeg,Int.reduceAdd,Int.reduceSub]
  refine condD_dec (fun hc => ?_) (fun hc => ?_)
  · obtain ⟨a, ha⟩ := at_lt (l := l) (i := i) (by omega)
    have hlt : (i : Int) < l.length := by omega
    have e1 : iw .i64 ((i : Int) + 1) = ((i + 1 : Nat) : Int) := by rw [iw64] <;> omega
    rw [ffault_drop ha] at hf
    have hn : ∃ n : Nat, a.size = n ∧ n ≤ 8 := by rcases hsz a (List.mem_of_getElem? ha) with h | h <;> exact ⟨a.size.toNat, by omega, by omega⟩
    obtain ⟨n, hn, hn8⟩ := hn
    rw [hn] at hf
    simp only [Int.toNat_natCast] at hf
    simp only [go_sem,Nat.reduceAdd,Nat.reduceSub,Nat.reduceMul,Nat.reduceEqDiff,Nat.reduceLeDiff,Nat.reduceLT,↓reduceIte,Int.reduceToNat,reduceCtorEq,Int.reduceLT,Int.reduceLE,Int.reduceGT,Int.reduceGE,Int.reduceEq,Int.reduceNe,Int.reduceNeg,Int.reduceAdd,Int.reduceSub,List.length_map,List.getElem?_map,ha,hlt,Int.natCast_nonneg,Acc.row]
    cases hw : a.write <;> simp only [Acc.perm, hw, Bool.false_eq_true, if_true, if_false] at hf
    all_goals
      simp only [go_sem,Nat.reduceAdd,Nat.reduceSub,Nat.reduceMul,Nat.reduceEqDiff,Nat.reduceLeDiff,Nat.reduceLT,↓reduceIte,Int.reduceToNat,reduceCtorEq,Int.reduceLT,Int.reduceLE,Int.reduceGT,Int.reduceGE,Int.reduceEq,Int.reduceNe,Int.reduceNeg,Int.reduceAdd,Int.reduceSub]
      refine draw [.qu 0 1, .qu 0 1, .qu 0 1, .rd 0 1, .qu 0 1, .rd 0 1, .qu 0 1, .rd 0 1, .qu 0 1, .qu 0 1, .qu 0 1, .qu 0 1, .qu 0 1, .mn 0, .mn 1] (by kernel_rfl) (by kernel_rfl) ?_
      simp only [go_sem,Nat.reduceAdd,Nat.reduceSub,Nat.reduceMul,Nat.reduceEqDiff,Nat.reduceLeDiff,Nat.reduceLT,↓reduceIte,Int.reduceToNat,reduceCtorEq,Int.reduceLT,Int.reduceLE,Int.reduceGT,Int.reduceGE,Int.reduceEq,Int.reduceNe,Int.reduceNeg,Int.reduceAdd,Int.reduceSub,Pr.row,hn]
      refine y_call (enters_of Tryd.func78 rfl (by decide)) (fun _ => ACalls.pure_use (access_c p.s hs a.pos _ n (by omega) (by simp)) rfl rfl) ?_
      simp only [go_sem,Nat.reduceAdd,Nat.reduceSub,Nat.reduceMul,Nat.reduceEqDiff,Nat.reduceLeDiff,Nat.reduceLT,↓reduceIte,Int.reduceToNat,reduceCtorEq,Int.reduceLT,Int.reduceLE,Int.reduceGT,Int.reduceGE,Int.reduceEq,Int.reduceNe,Int.reduceNeg,Int.reduceAdd,Int.reduceSub]
      refine y_call (enters_of Tryd.func77 rfl (by decide)) (fun _ => ACalls.pure_use (mustF_c _) rfl rfl) ?_
      simp only [go_sem,Nat.reduceAdd,Nat.reduceSub,Nat.reduceMul,Nat.reduceEqDiff,Nat.reduceLeDiff,Nat.reduceLT,↓reduceIte,Int.reduceToNat,reduceCtorEq,Int.reduceLT,Int.reduceLE,Int.reduceGT,Int.reduceGE,Int.reduceEq,Int.reduceNe,Int.reduceNeg,Int.reduceAdd,Int.reduceSub,Flt.cells]
      refine condD_dec (fun hk => ?_) (fun hk => ?_)
      · simp only [go_sem,Nat.reduceAdd,Nat.reduceSub,Nat.reduceMul,Nat.reduceEqDiff,Nat.reduceLeDiff,Nat.reduceLT,↓reduceIte,Int.reduceToNat,reduceCtorEq,Int.reduceLT,Int.reduceLE,Int.reduceGT,Int.reduceGE,Int.reduceEq,Int.reduceNe,Int.reduceNeg,Int.reduceAdd,Int.reduceSub]
        rw [if_neg hk] at hf
        exact finkp rfl (p.row_lt hd 1) (by rw [← hpost, hl, hf]; exact ⟨by rw [permOut, if_neg hk]; rfl, rfl⟩)
      · have hk' := Decidable.of_not_not hk
        rw [if_pos hk'] at hf
        simp only [go_sem,Nat.reduceAdd,Nat.reduceSub,Nat.reduceMul,Nat.reduceEqDiff,Nat.reduceLeDiff,Nat.reduceLT,↓reduceIte,Int.reduceToNat,reduceCtorEq,Int.reduceLT,Int.reduceLE,Int.reduceGT,Int.reduceGE,Int.reduceEq,Int.reduceNe,Int.reduceNeg,Int.reduceAdd,Int.reduceSub,e1]
        exact hK (i + 1) _ _ ⟨by omega, hf⟩ (by omega) (Wk.drop (m := 1) (by simp [wkS, Ch.get]) (Nat.le_refl _) (by simp) (by simp [chLt, AV.lt]) rfl (by intro b hb; simp at hb; subst hb; exact p.row_lt hd 1))
  · simp only [go_sem,Nat.reduceAdd,Nat.reduceSub,Nat.reduceMul,Nat.reduceEqDiff,Nat.reduceLeDiff,Nat.reduceLT,↓reduceIte,Int.reduceToNat,reduceCtorEq,Int.reduceLT,Int.reduceLE,Int.reduceGT,Int.reduceGE,Int.reduceEq,Int.reduceNe,Int.reduceNeg,Int.reduceAdd,Int.reduceSub]
    have : i = l.length := by omega
    subst this
    rw [List.drop_length, ffault] at hf
    exact fink rfl (p.row_lt hd 1) (by rw [← hpost, hl, hf]; exact ⟨by simp [permOut], rfl⟩)
theorem permit_ok (p : Pr) (hx : p.x.ok) (hs : p.s.ok) (d : AV) (hd : d.lt 0 = true) (h : (ffault p.s (foot p.x p.old)).kind = 0) :
    ACalls Tryd.prog 96 [.ptr 0 0 0] [.rows 31 [p.row d]] (fun o H => o = .ret (.tuple []) ∧ H = [.rows 31 [p.row d]]) := (permit_c p hx hs d hd).mono fun o H ⟨h1, h2⟩ => ⟨by rwa [permOut, if_pos h] at h1, h2⟩
theorem permit_no (p : Pr) (hx : p.x.ok) (hs : p.s.ok) (d : AV) (hd : d.lt 0 = true) (h : ¬ (ffault p.s (foot p.x p.old)).kind = 0) :
    ACalls Tryd.prog 96 [.ptr 0 0 0] [.rows 31 [p.row d]] (fun o H => o = .pan (trapV ⟨3, 0, ffault p.s (foot p.x p.old)⟩) ∧ H = [.rows 31 [p.row d]]) := (permit_c p hx hs d hd).mono fun o H ⟨h1, h2⟩ => ⟨by rwa [permOut, if_neg h] at h1, h2⟩
abbrev fnv (f : Nat) : AV := .func (.func f) [] []
def tabE : List (AV × AV) := [(iv 1, fnv 105), (iv 2, fnv 106), (iv 3, fnv 107), (iv 4, fnv 108), (iv 16, fnv 109), (iv 17, fnv 110), (iv 18, fnv 112), (iv 19, fnv 113), (iv 20, fnv 115), (iv 27, fnv 116), (iv 28, fnv 118), (iv 29, fnv 119), (iv 30, fnv 120), (iv 31, fnv 121), (iv 32, fnv 122), (iv 33, fnv 123), (iv 34, fnv 124), (iv 76, fnv 125)]
theorem table_c (b : Blk) (hb : b.lt 1) :
    ACalls Tryd.prog 99 [] [b] (fun o H => o = .ret (.map 1) ∧ H = [b, .amap tabE]) := by
  refine ACalls.up ?_
  refine ACalls.intro (cs := []) (n := 3) Tryd.func99 rfl rfl rfl (by kernel_rfl) rfl ?_
  simp only [go_sem,Nat.reduceAdd,Nat.reduceSub,Nat.reduceMul,Nat.reduceEqDiff,Nat.reduceLeDiff,Nat.reduceLT,↓reduceIte,Int.reduceToNat,reduceCtorEq,Int.reduceLT,Int.reduceLE,Int.reduceGT,Int.reduceGE,Int.reduceEq,Int.reduceNe,Int.reduceNeg,Int.reduceAdd,Int.reduceSub]
  exact .done ⟨rfl, rfl⟩
end Go.Proofs.YtojfnagfafoiaaaDoor

set_option maxRecDepth 100000
set_option linter.unusedVariables false
set_option linter.unusedSimpArgs false
namespace Go.Proofs.YtojfnagfafoiaaaDoor
open Go.AM
def Pr.start (x : Ins) (s : Sp) (r : Rg) : Pr := ⟨r, x, r, s, iw .i64 (r.pc + x.len), 0, 0, 0⟩
def Pr.toPc (p : Pr) (v : Int) : Pr := { p with rg := { p.rg with pc := v } }
def Pr.p1 (x : Ins) (s : Sp) (r : Rg) : Pr := (Pr.start x s r).toPc (iw .i64 (r.pc + x.len))
inductive Res where
  | tr (t : Trp) (p : Pr)
  | ok (p : Pr) (d : List UInt8)
def dav : List UInt8 → AV
  | [] => dnil
  | d => dby d
theorem dav_cons {b : UInt8} {l : List UInt8} : dav (b :: l) = dby (b :: l) := rfl
theorem dav_lt (d : List UInt8) : (dav d).lt 0 = true := by cases d <;> rfl
/-- What the table's function of an operation does. -/
def tabR (p : Pr) : Res :=
  if p.x.op = 1 then .ok p []
  else if p.x.op = 2 then .ok (p.setA (p.old.get p.x.b)) []
  else if p.x.op = 3 ∨ p.x.op = 4 then .ok (p.setA p.x.imm) []
  else if p.x.op = 16 then .ok (p.setA (iw .i64 (p.old.get p.x.a + p.x.imm))) []
  else if p.x.op = 17 then .ok (p.setA (rdL (p.s.sub (iw .i64 (p.old.get p.x.b + p.x.imm)) 1))) []
  else if p.x.op = 18 then .ok (p.setA (rdL (p.s.sub (iw .i64 (p.old.get p.x.b + p.x.imm)) 8))) []
  else if p.x.op = 19 then .ok { p with pos := iw .i64 (p.old.get p.x.b + p.x.imm) } (stL 1 (p.old.get p.x.a))
  else if p.x.op = 20 then .ok { p with pos := iw .i64 (p.old.get p.x.b + p.x.imm) } (stL 8 (p.old.get p.x.a))
  else if p.x.op = 27 then .ok ({ p.set7 (iw .i64 (p.old.r7 - 8)) with pos := iw .i64 (p.old.r7 - 8) }.toPc (iw .i64 (p.next + p.x.imm))) (stL 8 p.next)
  else if p.x.op = 28 then .ok ({ p.set7 (iw .i64 (p.old.r7 - 8)) with pos := iw .i64 (p.old.r7 - 8) }.toPc (p.old.get p.x.a)) (stL 8 p.next)
  else if p.x.op = 29 then .ok ((p.set7 (iw .i64 (p.old.r7 + 8))).toPc (rdL (p.s.sub p.old.r7 8))) []
  else if p.x.op = 30 then .ok { p.set7 (iw .i64 (p.old.r7 - 8)) with pos := iw .i64 (p.old.r7 - 8) } (stL 8 (p.old.get p.x.a))
  else if p.x.op = 31 then .ok ((p.set7 (iw .i64 (p.old.r7 + 8))).setA (rdL (p.s.sub p.old.r7 8))) []
  else if p.x.op = 32 then .ok (p.setA (iw .i64 (p.next + p.x.imm))) []
  else if p.x.op = 33 then .ok { p with tk := 1, tn := p.x.imm } []
  else if p.x.op = 34 then .ok ({ p with pos := p.old.get p.x.b : Pr }.setA (rdL (p.s.sub (p.old.get p.x.b) 8))) (stL 8 (p.old.get p.x.a))
  else .tr ⟨2, 0, ⟨0, 0⟩⟩ p
def effect (x : Ins) (s : Sp) (r : Rg) : Res :=
  if ¬ (ffault s (foot x r)).kind = 0 then .tr ⟨3, 0, ffault s (foot x r)⟩ (Pr.start x s r)
  else if isAlu x.op = true then (match alu x.op (r.get x.a) (r.get x.b) with
    | none => .tr ⟨5, 0, ⟨0, 0⟩⟩ (Pr.p1 x s r)
    | some v => .ok ((Pr.p1 x s r).setA v) [])
  else if 21 ≤ x.op ∧ x.op ≤ 25 then .ok (if taken x r = true then (Pr.p1 x s r).toPc (iw .i64 ((Pr.p1 x s r).next + x.imm)) else Pr.p1 x s r) []
  else if x.op = 26 then .ok ((Pr.p1 x s r).toPc (r.get x.a)) []
  else tabR (Pr.p1 x s r)
def resOut (q : Res) (o : Out) (H : Heap) : Prop := match q with
  | .tr t p => o = .pan (trapV t) ∧ H = [.rows 31 [p.row dnil]]
  | .ok p d => o = .ret (.tuple []) ∧ H = [.rows 31 [p.row (dav d)]]
theorem flt_perm0 {s : Sp} {pos perm : Int} : ∀ (m i : Nat), (s.flt pos perm m i).kind = 0 → (s.flt pos 0 m i).kind = 0
  | 0, i, _ => rfl
  | m + 1, i, h => by
    rw [Sp.flt] at h ⊢
    split at h
    · rename_i h1
      have hx : s.has (iw .i64 (pos + i)) = true := by
        unfold Sp.bad1 at h1
        split at h1
        · assumption
        · cases h1
      rw [bad1_ok hx rfl (alw0 _), if_pos rfl]
      exact flt_perm0 m (i + 1) h
    · rename_i h1; exact absurd h h1
theorem row1_lt (p : Pr) {d : AV} (hd : d.lt 0 = true) : ∀ b ∈ [Blk.rows 31 [p.row d]], b.lt 1 := fun b hb => by
  simp at hb; subst hb; exact p.row_lt hd 1
theorem dd_lt (l : List UInt8) : (dby l).lt 0 = true := by simp [AV.lt]
theorem tfr {P : Program} {f : FuncId} {p q : Pr} {d d' : AV} {R : Heap} (hd : d.lt 0 = true) (hd' : d'.lt 0 = true) (hc : ACalls P f [.ptr 0 0 0] [.rows 31 [p.row d]] (fun o H => o = .ret (.tuple []) ∧ H = [.rows 31 [q.row d']])) :
    ACalls P f [.ptr 0 0 0] (.rows 31 [p.row d] :: R) (fun o H => o = .ret (.tuple []) ∧ H = .rows 31 [q.row d'] :: R) :=
  ACalls.frame (H0 := [.rows 31 [p.row d]]) (H0' := [.rows 31 [q.row d']]) (R := R) hc rfl rfl (row1_lt p hd) (row1_lt q hd') rfl
theorem execute_c (x : Ins) (hx : x.ok) (s : Sp) (hs : s.ok) (r : Rg) (hr : r.wf) :
    ACalls Tryd.prog 86 [.ptr 0 0 0] [.rows 31 [(Pr.start x s r).row dnil]] (resOut (effect x s r)) := by
  refine ACalls.up ?_
  refine ACalls.intro (cs := []) (n := 118) Tryd.func86 rfl rfl rfl (by kernel_rfl) rfl ?_
  generalize hpost : resOut (effect x s r) = post
  have finT : ∀ t p R, effect x s r = .tr t p → Up 1 post (.pan (trapV t)) (.rows 31 [p.row dnil] :: R) := fun t p R h => finkp rfl (p.row_lt rfl 1) (by rw [← hpost, h]; exact ⟨rfl, rfl⟩)
  have finO : ∀ p d R, effect x s r = .ok p d → Up 1 post (.ret (.tuple [])) (.rows 31 [p.row (dav d)] :: R) := fun p d R h => fink rfl (p.row_lt (dav_lt d) 1) (by rw [← hpost, h]; exact ⟨rfl, rfl⟩)
  have ha : 0 ≤ x.a ∧ x.a < 8 := ⟨hx.a0, by have := hx.a7; omega⟩
  have ha' : x.a.toNat + 1 ≤ 31 := by omega
  simp only [go_sem,Nat.reduceAdd,Nat.reduceSub,Nat.reduceMul,Nat.reduceEqDiff,Nat.reduceLeDiff,Nat.reduceLT,↓reduceIte,Int.reduceToNat,reduceCtorEq,Int.reduceLT,Int.reduceLE,Int.reduceGT,Int.reduceGE,Int.reduceEq,Int.reduceNe,Int.reduceNeg,Int.reduceAdd,Int.reduceSub]
  rcases Decidable.em ((ffault s (foot x r)).kind = 0) with hf | hf
  rotate_left
  · refine rK_pans (enters_of Tryd.func96 rfl (by decide)) (permit_no (Pr.start x s r) hx hs dnil rfl hf) ?_
    simp only [go_sem,Nat.reduceAdd,Nat.reduceSub,Nat.reduceMul,Nat.reduceEqDiff,Nat.reduceLeDiff,Nat.reduceLT,↓reduceIte,Int.reduceToNat,reduceCtorEq,Int.reduceLT,Int.reduceLE,Int.reduceGT,Int.reduceGE,Int.reduceEq,Int.reduceNe,Int.reduceNeg,Int.reduceAdd,Int.reduceSub]
    exact finT _ _ _ (by rw [effect, if_pos hf]; rfl)
  refine rK_use (enters_of Tryd.func96 rfl (by decide)) (permit_ok (Pr.start x s r) hx hs dnil rfl hf) ?_
  simp only [go_sem,Nat.reduceAdd,Nat.reduceSub,Nat.reduceMul,Nat.reduceEqDiff,Nat.reduceLeDiff,Nat.reduceLT,↓reduceIte,Int.reduceToNat,reduceCtorEq,Int.reduceLT,Int.reduceLE,Int.reduceGT,Int.reduceGE,Int.reduceEq,Int.reduceNe,Int.reduceNeg,Int.reduceAdd,Int.reduceSub,Pr.row,Pr.start]
  have e0 : effect x s r = effect x s r := rfl
  conv at e0 => rhs; rw [effect, if_neg (fun h => h hf)]
  rcases Decidable.em (isAlu x.op = true) with hal | hal
  · rw [if_pos hal] at e0
    have hal2 := hal
    simp only [isAlu, Bool.and_eq_true, decide_eq_true_eq] at hal2
    simp only [go_sem,Nat.reduceAdd,Nat.reduceSub,Nat.reduceMul,Nat.reduceEqDiff,Nat.reduceLeDiff,Nat.reduceLT,↓reduceIte,Int.reduceToNat,reduceCtorEq,Int.reduceLT,Int.reduceLE,Int.reduceGT,Int.reduceGE,Int.reduceEq,Int.reduceNe,Int.reduceNeg,Int.reduceAdd,Int.reduceSub,hal2,Pr.row]
    refine draw [.qu 0 2, .qu 0 2, .qu 0 2, .qu 0 2, .rd 0 2, .qu 0 0, .mn 0, .qu 0 1, .mn 1, .qu 2 2, .qu 2 2, .qu 2 2, .qu 2 2, .qu 2 2, .qu 2 2] (by kernel_rfl) (by kernel_rfl) ?_
    simp only [go_sem,Nat.reduceAdd,Nat.reduceSub,Nat.reduceMul,Nat.reduceEqDiff,Nat.reduceLeDiff,Nat.reduceLT,↓reduceIte,Int.reduceToNat,reduceCtorEq,Int.reduceLT,Int.reduceLE,Int.reduceGT,Int.reduceGE,Int.reduceEq,Int.reduceNe,Int.reduceNeg,Int.reduceAdd,Int.reduceSub]
    refine dM_call (enters_of Tryd.func97 rfl (by decide)) (a_c (Pr.p1 x s r) hx dnil rfl) ?_
    simp only [go_sem,Nat.reduceAdd,Nat.reduceSub,Nat.reduceMul,Nat.reduceEqDiff,Nat.reduceLeDiff,Nat.reduceLT,↓reduceIte,Int.reduceToNat,reduceCtorEq,Int.reduceLT,Int.reduceLE,Int.reduceGT,Int.reduceGE,Int.reduceEq,Int.reduceNe,Int.reduceNeg,Int.reduceAdd,Int.reduceSub,Pr.row,Pr.p1,Pr.toPc,Pr.start]
    refine dM_call (enters_of Tryd.func98 rfl (by decide)) (b_c (Pr.p1 x s r) hx dnil rfl) ?_
    simp only [go_sem,Nat.reduceAdd,Nat.reduceSub,Nat.reduceMul,Nat.reduceEqDiff,Nat.reduceLeDiff,Nat.reduceLT,↓reduceIte,Int.reduceToNat,reduceCtorEq,Int.reduceLT,Int.reduceLE,Int.reduceGT,Int.reduceGE,Int.reduceEq,Int.reduceNe,Int.reduceNeg,Int.reduceAdd,Int.reduceSub,Pr.row,Pr.p1,Pr.toPc,Pr.start]
    refine y_call (enters_of Tryd.func68 rfl (by decide)) (fun _ => ACalls.pure_use (alu_c x.op (r.get x.a) (r.get x.b) (hr.get _)) rfl rfl) ?_
    cases hv : alu x.op (r.get x.a) (r.get x.b) with
    | none =>
      rw [hv] at e0
      simp only [go_sem,Nat.reduceAdd,Nat.reduceSub,Nat.reduceMul,Nat.reduceEqDiff,Nat.reduceLeDiff,Nat.reduceLT,↓reduceIte,Int.reduceToNat,reduceCtorEq,Int.reduceLT,Int.reduceLE,Int.reduceGT,Int.reduceGE,Int.reduceEq,Int.reduceNe,Int.reduceNeg,Int.reduceAdd,Int.reduceSub,aluV,Option.isSome_none,Option.getD_none]
      exact finT ⟨5, 0, ⟨0, 0⟩⟩ _ _ e0
    | some v =>
      rw [hv] at e0
      simp only [go_sem,Nat.reduceAdd,Nat.reduceSub,Nat.reduceMul,Nat.reduceEqDiff,Nat.reduceLeDiff,Nat.reduceLT,↓reduceIte,Int.reduceToNat,reduceCtorEq,Int.reduceLT,Int.reduceLE,Int.reduceGT,Int.reduceGE,Int.reduceEq,Int.reduceNe,Int.reduceNeg,Int.reduceAdd,Int.reduceSub,aluV,Option.isSome_some,Option.getD_some]
      refine draw [.qu 0 0, .qu 0 0, .qu 0 0, .qu 0 0, .qu 0 0, .qu 0 0, .qu 0 0, .qu 0 0, .qu 0 0, .qu 0 0, .qu 0 0, .mn 0] (by kernel_rfl) (by kernel_rfl) ?_
      simp only [go_sem,Nat.reduceAdd,Nat.reduceSub,Nat.reduceMul,Nat.reduceEqDiff,Nat.reduceLeDiff,Nat.reduceLT,↓reduceIte,Int.reduceToNat,reduceCtorEq,Int.reduceLT,Int.reduceLE,Int.reduceGT,Int.reduceGE,Int.reduceEq,Int.reduceNe,Int.reduceNeg,Int.reduceAdd,Int.reduceSub,Pr.row,Pr.p1,Pr.toPc,Pr.start,ha,ha',wr0 ha.1 ha.2]
      exact finO _ [] _ e0
  rw [if_neg hal] at e0
  have hal2 : ¬ (5 ≤ x.op ∧ x.op ≤ 15) := by simpa [isAlu] using hal
  rcases Decidable.em (21 ≤ x.op ∧ x.op ≤ 25) with hj | hj
  · rw [if_pos hj] at e0
    have h5 : 5 ≤ x.op := by omega
    have h15 : ¬ x.op ≤ 15 := by omega
    simp only [go_sem,Nat.reduceAdd,Nat.reduceSub,Nat.reduceMul,Nat.reduceEqDiff,Nat.reduceLeDiff,Nat.reduceLT,↓reduceIte,Int.reduceToNat,reduceCtorEq,Int.reduceLT,Int.reduceLE,Int.reduceGT,Int.reduceGE,Int.reduceEq,Int.reduceNe,Int.reduceNeg,Int.reduceAdd,Int.reduceSub,h5,h15,hj,Pr.row]
    refine draw [.qu 0 0, .qu 0 0, .qu 0 0, .qu 0 0, .qu 0 0, .qu 0 0, .qu 0 0, .qu 0 0, .qu 0 0] (by kernel_rfl) (by kernel_rfl) ?_
    simp only [go_sem,Nat.reduceAdd,Nat.reduceSub,Nat.reduceMul,Nat.reduceEqDiff,Nat.reduceLeDiff,Nat.reduceLT,↓reduceIte,Int.reduceToNat,reduceCtorEq,Int.reduceLT,Int.reduceLE,Int.reduceGT,Int.reduceGE,Int.reduceEq,Int.reduceNe,Int.reduceNeg,Int.reduceAdd,Int.reduceSub,Pr.row,Pr.p1,Pr.toPc,Pr.start]
    refine y_call (enters_of Tryd.func73 rfl (by decide)) (fun _ => ACalls.pure_use (taken_c x hx r) rfl rfl) ?_
    cases ht : taken x r
    · rw [ht] at e0
      simp only [go_sem,Nat.reduceAdd,Nat.reduceSub,Nat.reduceMul,Nat.reduceEqDiff,Nat.reduceLeDiff,Nat.reduceLT,↓reduceIte,Int.reduceToNat,reduceCtorEq,Int.reduceLT,Int.reduceLE,Int.reduceGT,Int.reduceGE,Int.reduceEq,Int.reduceNe,Int.reduceNeg,Int.reduceAdd,Int.reduceSub]
      exact finO _ [] _ e0
    · rw [ht] at e0
      simp only [go_sem,Nat.reduceAdd,Nat.reduceSub,Nat.reduceMul,Nat.reduceEqDiff,Nat.reduceLeDiff,Nat.reduceLT,↓reduceIte,Int.reduceToNat,reduceCtorEq,Int.reduceLT,Int.reduceLE,Int.reduceGT,Int.reduceGE,Int.reduceEq,Int.reduceNe,Int.reduceNeg,Int.reduceAdd,Int.reduceSub]
      refine draw [.qu 0 0, .qu 0 0, .qu 0 0, .qu 0 0, .qu 0 0, .qu 0 0, .qu 0 0, .qu 0 0, .qu 0 0, .qu 0 0, .qu 0 0, .qu 0 0, .qu 0 0, .qu 0 0, .mn 0] (by kernel_rfl) (by kernel_rfl) ?_
      simp only [go_sem,Nat.reduceAdd,Nat.reduceSub,Nat.reduceMul,Nat.reduceEqDiff,Nat.reduceLeDiff,Nat.reduceLT,↓reduceIte,Int.reduceToNat,reduceCtorEq,Int.reduceLT,Int.reduceLE,Int.reduceGT,Int.reduceGE,Int.reduceEq,Int.reduceNe,Int.reduceNeg,Int.reduceAdd,Int.reduceSub,Pr.row,Pr.p1,Pr.toPc,Pr.start]
      exact finO _ [] _ e0
  rw [if_neg hj] at e0
  obtain ⟨xop, xa, xb, xi⟩ := x
  simp only at hal2 hj e0
  rcases Decidable.em (xop = 26) with h26 | h26
  · rw [if_pos h26] at e0
    subst h26
    simp only [go_sem,Nat.reduceAdd,Nat.reduceSub,Nat.reduceMul,Nat.reduceEqDiff,Nat.reduceLeDiff,Nat.reduceLT,↓reduceIte,Int.reduceToNat,reduceCtorEq,Int.reduceLT,Int.reduceLE,Int.reduceGT,Int.reduceGE,Int.reduceEq,Int.reduceNe,Int.reduceNeg,Int.reduceAdd,Int.reduceSub,Pr.row]
    refine rK_use (enters_of Tryd.func97 rfl (by decide)) (a_c (Pr.p1 ⟨26, xa, xb, xi⟩ s r) hx dnil rfl) ?_
    simp only [go_sem,Nat.reduceAdd,Nat.reduceSub,Nat.reduceMul,Nat.reduceEqDiff,Nat.reduceLeDiff,Nat.reduceLT,↓reduceIte,Int.reduceToNat,reduceCtorEq,Int.reduceLT,Int.reduceLE,Int.reduceGT,Int.reduceGE,Int.reduceEq,Int.reduceNe,Int.reduceNeg,Int.reduceAdd,Int.reduceSub,Pr.row,Pr.p1,Pr.toPc,Pr.start]
    exact finO _ [] _ e0
  rw [if_neg h26] at e0
  have h7 : I64 r.r7 := hr.reg _ (by simp [Rg.list])
  have hcs : xop = 1 ∨ xop = 2 ∨ xop = 3 ∨ xop = 4 ∨ xop = 16 ∨ xop = 17 ∨ xop = 18 ∨ xop = 19 ∨ xop = 20 ∨ xop = 27 ∨ xop = 28 ∨ xop = 29 ∨ xop = 30 ∨ xop = 31 ∨ xop = 32 ∨ xop = 33 ∨ xop = 34 ∨ xop = 76 := by
    rcases opcases hx.op with h | ⟨k, h1, h2, h3⟩
    · simp only at h; omega
    · simp only at h3; omega
  rcases hcs with h | h | h | h | h | h | h | h | h | h | h | h | h | h | h | h | h | h
  · subst h
    simp only [go_sem,Nat.reduceAdd,Nat.reduceSub,Nat.reduceMul,Nat.reduceEqDiff,Nat.reduceLeDiff,Nat.reduceLT,↓reduceIte,Int.reduceToNat,reduceCtorEq,Int.reduceLT,Int.reduceLE,Int.reduceGT,Int.reduceGE,Int.reduceEq,Int.reduceNe,Int.reduceNeg,Int.reduceAdd,Int.reduceSub,Pr.row]
    refine drawLL [.mn 0, .qu 0 1, .qu 0 1, .qu 0 1, .qu 0 1, .rd 0 1, .qu 1 1, .qu 0 1] 8 rfl (by kernel_rfl) (by kernel_rfl) (by kernel_rfl) (by kernel_rfl) ?_; simp only [List.take_succ_cons, List.take_zero]
    simp only [go_sem,Nat.reduceAdd,Nat.reduceSub,Nat.reduceMul,Nat.reduceEqDiff,Nat.reduceLeDiff,Nat.reduceLT,↓reduceIte,Int.reduceToNat,reduceCtorEq,Int.reduceLT,Int.reduceLE,Int.reduceGT,Int.reduceGE,Int.reduceEq,Int.reduceNe,Int.reduceNeg,Int.reduceAdd,Int.reduceSub]
    refine dM_call (enters_of Tryd.func99 rfl (by decide)) (table_c (.rows 31 [(Pr.p1 ⟨1, xa, xb, xi⟩ s r).row dnil]) (Pr.row_lt _ rfl 1)) ?_
    simp only [go_sem,Nat.reduceAdd,Nat.reduceSub,Nat.reduceMul,Nat.reduceEqDiff,Nat.reduceLeDiff,Nat.reduceLT,↓reduceIte,Int.reduceToNat,reduceCtorEq,Int.reduceLT,Int.reduceLE,Int.reduceGT,Int.reduceGE,Int.reduceEq,Int.reduceNe,Int.reduceNeg,Int.reduceAdd,Int.reduceSub,Pr.row,Pr.p1,Pr.toPc,Pr.start,tabE]
    refine rK_use (enters_of Tryd.func105 rfl (by decide)) (tfr (R := [.amap tabE]) rfl (by first | exact dd_lt _ | rfl) (t1_c (Pr.p1 ⟨1, xa, xb, xi⟩ s r) hx)) ?_
    simp only [go_sem,Nat.reduceAdd,Nat.reduceSub,Nat.reduceMul,Nat.reduceEqDiff,Nat.reduceLeDiff,Nat.reduceLT,↓reduceIte,Int.reduceToNat,reduceCtorEq,Int.reduceLT,Int.reduceLE,Int.reduceGT,Int.reduceGE,Int.reduceEq,Int.reduceNe,Int.reduceNeg,Int.reduceAdd,Int.reduceSub]
    exact finO _ _ _ (by rw [e0, tabR]; rfl)
  · subst h
    simp only [go_sem,Nat.reduceAdd,Nat.reduceSub,Nat.reduceMul,Nat.reduceEqDiff,Nat.reduceLeDiff,Nat.reduceLT,↓reduceIte,Int.reduceToNat,reduceCtorEq,Int.reduceLT,Int.reduceLE,Int.reduceGT,Int.reduceGE,Int.reduceEq,Int.reduceNe,Int.reduceNeg,Int.reduceAdd,Int.reduceSub,Pr.row]
    refine drawLL [.mn 0, .qu 0 1, .qu 0 1, .qu 0 1, .qu 0 1, .rd 0 1, .qu 1 1, .qu 0 1] 8 rfl (by kernel_rfl) (by kernel_rfl) (by kernel_rfl) (by kernel_rfl) ?_; simp only [List.take_succ_cons, List.take_zero]
    simp only [go_sem,Nat.reduceAdd,Nat.reduceSub,Nat.reduceMul,Nat.reduceEqDiff,Nat.reduceLeDiff,Nat.reduceLT,↓reduceIte,Int.reduceToNat,reduceCtorEq,Int.reduceLT,Int.reduceLE,Int.reduceGT,Int.reduceGE,Int.reduceEq,Int.reduceNe,Int.reduceNeg,Int.reduceAdd,Int.reduceSub]
    refine dM_call (enters_of Tryd.func99 rfl (by decide)) (table_c (.rows 31 [(Pr.p1 ⟨2, xa, xb, xi⟩ s r).row dnil]) (Pr.row_lt _ rfl 1)) ?_
    simp only [go_sem,Nat.reduceAdd,Nat.reduceSub,Nat.reduceMul,Nat.reduceEqDiff,Nat.reduceLeDiff,Nat.reduceLT,↓reduceIte,Int.reduceToNat,reduceCtorEq,Int.reduceLT,Int.reduceLE,Int.reduceGT,Int.reduceGE,Int.reduceEq,Int.reduceNe,Int.reduceNeg,Int.reduceAdd,Int.reduceSub,Pr.row,Pr.p1,Pr.toPc,Pr.start,tabE]
    refine rK_use (enters_of Tryd.func106 rfl (by decide)) (tfr (R := [.amap tabE]) rfl (by first | exact dd_lt _ | rfl) (t2_c (Pr.p1 ⟨2, xa, xb, xi⟩ s r) hx)) ?_
    simp only [go_sem,Nat.reduceAdd,Nat.reduceSub,Nat.reduceMul,Nat.reduceEqDiff,Nat.reduceLeDiff,Nat.reduceLT,↓reduceIte,Int.reduceToNat,reduceCtorEq,Int.reduceLT,Int.reduceLE,Int.reduceGT,Int.reduceGE,Int.reduceEq,Int.reduceNe,Int.reduceNeg,Int.reduceAdd,Int.reduceSub]
    exact finO _ _ _ (by rw [e0, tabR]; rfl)
  · subst h
    simp only [go_sem,Nat.reduceAdd,Nat.reduceSub,Nat.reduceMul,Nat.reduceEqDiff,Nat.reduceLeDiff,Nat.reduceLT,↓reduceIte,Int.reduceToNat,reduceCtorEq,Int.reduceLT,Int.reduceLE,Int.reduceGT,Int.reduceGE,Int.reduceEq,Int.reduceNe,Int.reduceNeg,Int.reduceAdd,Int.reduceSub,Pr.row]
    refine drawLL [.mn 0, .qu 0 1, .qu 0 1, .qu 0 1, .qu 0 1, .rd 0 1, .qu 1 1, .qu 0 1] 8 rfl (by kernel_rfl) (by kernel_rfl) (by kernel_rfl) (by kernel_rfl) ?_; simp only [List.take_succ_cons, List.take_zero]
    simp only [go_sem,Nat.reduceAdd,Nat.reduceSub,Nat.reduceMul,Nat.reduceEqDiff,Nat.reduceLeDiff,Nat.reduceLT,↓reduceIte,Int.reduceToNat,reduceCtorEq,Int.reduceLT,Int.reduceLE,Int.reduceGT,Int.reduceGE,Int.reduceEq,Int.reduceNe,Int.reduceNeg,Int.reduceAdd,Int.reduceSub]
    refine dM_call (enters_of Tryd.func99 rfl (by decide)) (table_c (.rows 31 [(Pr.p1 ⟨3, xa, xb, xi⟩ s r).row dnil]) (Pr.row_lt _ rfl 1)) ?_
    simp only [go_sem,Nat.reduceAdd,Nat.reduceSub,Nat.reduceMul,Nat.reduceEqDiff,Nat.reduceLeDiff,Nat.reduceLT,↓reduceIte,Int.reduceToNat,reduceCtorEq,Int.reduceLT,Int.reduceLE,Int.reduceGT,Int.reduceGE,Int.reduceEq,Int.reduceNe,Int.reduceNeg,Int.reduceAdd,Int.reduceSub,Pr.row,Pr.p1,Pr.toPc,Pr.start,tabE]
    refine rK_use (enters_of Tryd.func107 rfl (by decide)) (tfr (R := [.amap tabE]) rfl (by first | exact dd_lt _ | rfl) (t3_c (Pr.p1 ⟨3, xa, xb, xi⟩ s r) hx)) ?_
    simp only [go_sem,Nat.reduceAdd,Nat.reduceSub,Nat.reduceMul,Nat.reduceEqDiff,Nat.reduceLeDiff,Nat.reduceLT,↓reduceIte,Int.reduceToNat,reduceCtorEq,Int.reduceLT,Int.reduceLE,Int.reduceGT,Int.reduceGE,Int.reduceEq,Int.reduceNe,Int.reduceNeg,Int.reduceAdd,Int.reduceSub]
    exact finO _ _ _ (by rw [e0, tabR]; rfl)
  · subst h
    simp only [go_sem,Nat.reduceAdd,Nat.reduceSub,Nat.reduceMul,Nat.reduceEqDiff,Nat.reduceLeDiff,Nat.reduceLT,↓reduceIte,Int.reduceToNat,reduceCtorEq,Int.reduceLT,Int.reduceLE,Int.reduceGT,Int.reduceGE,Int.reduceEq,Int.reduceNe,Int.reduceNeg,Int.reduceAdd,Int.reduceSub,Pr.row]
    refine drawLL [.mn 0, .qu 0 1, .qu 0 1, .qu 0 1, .qu 0 1, .rd 0 1, .qu 1 1, .qu 0 1] 8 rfl (by kernel_rfl) (by kernel_rfl) (by kernel_rfl) (by kernel_rfl) ?_; simp only [List.take_succ_cons, List.take_zero]
    simp only [go_sem,Nat.reduceAdd,Nat.reduceSub,Nat.reduceMul,Nat.reduceEqDiff,Nat.reduceLeDiff,Nat.reduceLT,↓reduceIte,Int.reduceToNat,reduceCtorEq,Int.reduceLT,Int.reduceLE,Int.reduceGT,Int.reduceGE,Int.reduceEq,Int.reduceNe,Int.reduceNeg,Int.reduceAdd,Int.reduceSub]
    refine dM_call (enters_of Tryd.func99 rfl (by decide)) (table_c (.rows 31 [(Pr.p1 ⟨4, xa, xb, xi⟩ s r).row dnil]) (Pr.row_lt _ rfl 1)) ?_
    simp only [go_sem,Nat.reduceAdd,Nat.reduceSub,Nat.reduceMul,Nat.reduceEqDiff,Nat.reduceLeDiff,Nat.reduceLT,↓reduceIte,Int.reduceToNat,reduceCtorEq,Int.reduceLT,Int.reduceLE,Int.reduceGT,Int.reduceGE,Int.reduceEq,Int.reduceNe,Int.reduceNeg,Int.reduceAdd,Int.reduceSub,Pr.row,Pr.p1,Pr.toPc,Pr.start,tabE]
    refine rK_use (enters_of Tryd.func108 rfl (by decide)) (tfr (R := [.amap tabE]) rfl (by first | exact dd_lt _ | rfl) (t4_c (Pr.p1 ⟨4, xa, xb, xi⟩ s r) hx)) ?_
    simp only [go_sem,Nat.reduceAdd,Nat.reduceSub,Nat.reduceMul,Nat.reduceEqDiff,Nat.reduceLeDiff,Nat.reduceLT,↓reduceIte,Int.reduceToNat,reduceCtorEq,Int.reduceLT,Int.reduceLE,Int.reduceGT,Int.reduceGE,Int.reduceEq,Int.reduceNe,Int.reduceNeg,Int.reduceAdd,Int.reduceSub]
    exact finO _ _ _ (by rw [e0, tabR]; rfl)
  · subst h
    simp only [go_sem,Nat.reduceAdd,Nat.reduceSub,Nat.reduceMul,Nat.reduceEqDiff,Nat.reduceLeDiff,Nat.reduceLT,↓reduceIte,Int.reduceToNat,reduceCtorEq,Int.reduceLT,Int.reduceLE,Int.reduceGT,Int.reduceGE,Int.reduceEq,Int.reduceNe,Int.reduceNeg,Int.reduceAdd,Int.reduceSub,Pr.row]
    refine drawLL [.mn 0, .qu 0 1, .qu 0 1, .qu 0 1, .qu 0 1, .rd 0 1, .qu 1 1, .qu 0 1] 8 rfl (by kernel_rfl) (by kernel_rfl) (by kernel_rfl) (by kernel_rfl) ?_; simp only [List.take_succ_cons, List.take_zero]
    simp only [go_sem,Nat.reduceAdd,Nat.reduceSub,Nat.reduceMul,Nat.reduceEqDiff,Nat.reduceLeDiff,Nat.reduceLT,↓reduceIte,Int.reduceToNat,reduceCtorEq,Int.reduceLT,Int.reduceLE,Int.reduceGT,Int.reduceGE,Int.reduceEq,Int.reduceNe,Int.reduceNeg,Int.reduceAdd,Int.reduceSub]
    refine dM_call (enters_of Tryd.func99 rfl (by decide)) (table_c (.rows 31 [(Pr.p1 ⟨16, xa, xb, xi⟩ s r).row dnil]) (Pr.row_lt _ rfl 1)) ?_
    simp only [go_sem,Nat.reduceAdd,Nat.reduceSub,Nat.reduceMul,Nat.reduceEqDiff,Nat.reduceLeDiff,Nat.reduceLT,↓reduceIte,Int.reduceToNat,reduceCtorEq,Int.reduceLT,Int.reduceLE,Int.reduceGT,Int.reduceGE,Int.reduceEq,Int.reduceNe,Int.reduceNeg,Int.reduceAdd,Int.reduceSub,Pr.row,Pr.p1,Pr.toPc,Pr.start,tabE]
    refine rK_use (enters_of Tryd.func109 rfl (by decide)) (tfr (R := [.amap tabE]) rfl (by first | exact dd_lt _ | rfl) (t5_c (Pr.p1 ⟨16, xa, xb, xi⟩ s r) hx)) ?_
    simp only [go_sem,Nat.reduceAdd,Nat.reduceSub,Nat.reduceMul,Nat.reduceEqDiff,Nat.reduceLeDiff,Nat.reduceLT,↓reduceIte,Int.reduceToNat,reduceCtorEq,Int.reduceLT,Int.reduceLE,Int.reduceGT,Int.reduceGE,Int.reduceEq,Int.reduceNe,Int.reduceNeg,Int.reduceAdd,Int.reduceSub]
    exact finO _ _ _ (by rw [e0, tabR]; rfl)
  · subst h
    have hq := flt_perm0 _ _ (ffault0 hf ⟨iw .i64 (r.get xb + xi), 1, false⟩ (by simp [foot]))
    simp only [go_sem,Nat.reduceAdd,Nat.reduceSub,Nat.reduceMul,Nat.reduceEqDiff,Nat.reduceLeDiff,Nat.reduceLT,↓reduceIte,Int.reduceToNat,reduceCtorEq,Int.reduceLT,Int.reduceLE,Int.reduceGT,Int.reduceGE,Int.reduceEq,Int.reduceNe,Int.reduceNeg,Int.reduceAdd,Int.reduceSub,Pr.row]
    refine drawLL [.mn 0, .qu 0 1, .qu 0 1, .qu 0 1, .qu 0 1, .rd 0 1, .qu 1 1, .qu 0 1] 8 rfl (by kernel_rfl) (by kernel_rfl) (by kernel_rfl) (by kernel_rfl) ?_; simp only [List.take_succ_cons, List.take_zero]
    simp only [go_sem,Nat.reduceAdd,Nat.reduceSub,Nat.reduceMul,Nat.reduceEqDiff,Nat.reduceLeDiff,Nat.reduceLT,↓reduceIte,Int.reduceToNat,reduceCtorEq,Int.reduceLT,Int.reduceLE,Int.reduceGT,Int.reduceGE,Int.reduceEq,Int.reduceNe,Int.reduceNeg,Int.reduceAdd,Int.reduceSub]
    refine dM_call (enters_of Tryd.func99 rfl (by decide)) (table_c (.rows 31 [(Pr.p1 ⟨17, xa, xb, xi⟩ s r).row dnil]) (Pr.row_lt _ rfl 1)) ?_
    simp only [go_sem,Nat.reduceAdd,Nat.reduceSub,Nat.reduceMul,Nat.reduceEqDiff,Nat.reduceLeDiff,Nat.reduceLT,↓reduceIte,Int.reduceToNat,reduceCtorEq,Int.reduceLT,Int.reduceLE,Int.reduceGT,Int.reduceGE,Int.reduceEq,Int.reduceNe,Int.reduceNeg,Int.reduceAdd,Int.reduceSub,Pr.row,Pr.p1,Pr.toPc,Pr.start,tabE]
    refine rK_use (enters_of Tryd.func110 rfl (by decide)) (tfr (R := [.amap tabE]) rfl (by first | exact dd_lt _ | rfl) (t6_c (Pr.p1 ⟨17, xa, xb, xi⟩ s r) hx hs hq)) ?_
    simp only [go_sem,Nat.reduceAdd,Nat.reduceSub,Nat.reduceMul,Nat.reduceEqDiff,Nat.reduceLeDiff,Nat.reduceLT,↓reduceIte,Int.reduceToNat,reduceCtorEq,Int.reduceLT,Int.reduceLE,Int.reduceGT,Int.reduceGE,Int.reduceEq,Int.reduceNe,Int.reduceNeg,Int.reduceAdd,Int.reduceSub]
    exact finO _ _ _ (by rw [e0, tabR]; rfl)
  · subst h
    have hq := flt_perm0 _ _ (ffault0 hf ⟨iw .i64 (r.get xb + xi), 8, false⟩ (by simp [foot]))
    simp only [go_sem,Nat.reduceAdd,Nat.reduceSub,Nat.reduceMul,Nat.reduceEqDiff,Nat.reduceLeDiff,Nat.reduceLT,↓reduceIte,Int.reduceToNat,reduceCtorEq,Int.reduceLT,Int.reduceLE,Int.reduceGT,Int.reduceGE,Int.reduceEq,Int.reduceNe,Int.reduceNeg,Int.reduceAdd,Int.reduceSub,Pr.row]
    refine drawLL [.mn 0, .qu 0 1, .qu 0 1, .qu 0 1, .qu 0 1, .rd 0 1, .qu 1 1, .qu 0 1] 8 rfl (by kernel_rfl) (by kernel_rfl) (by kernel_rfl) (by kernel_rfl) ?_; simp only [List.take_succ_cons, List.take_zero]
    simp only [go_sem,Nat.reduceAdd,Nat.reduceSub,Nat.reduceMul,Nat.reduceEqDiff,Nat.reduceLeDiff,Nat.reduceLT,↓reduceIte,Int.reduceToNat,reduceCtorEq,Int.reduceLT,Int.reduceLE,Int.reduceGT,Int.reduceGE,Int.reduceEq,Int.reduceNe,Int.reduceNeg,Int.reduceAdd,Int.reduceSub]
    refine dM_call (enters_of Tryd.func99 rfl (by decide)) (table_c (.rows 31 [(Pr.p1 ⟨18, xa, xb, xi⟩ s r).row dnil]) (Pr.row_lt _ rfl 1)) ?_
    simp only [go_sem,Nat.reduceAdd,Nat.reduceSub,Nat.reduceMul,Nat.reduceEqDiff,Nat.reduceLeDiff,Nat.reduceLT,↓reduceIte,Int.reduceToNat,reduceCtorEq,Int.reduceLT,Int.reduceLE,Int.reduceGT,Int.reduceGE,Int.reduceEq,Int.reduceNe,Int.reduceNeg,Int.reduceAdd,Int.reduceSub,Pr.row,Pr.p1,Pr.toPc,Pr.start,tabE]
    refine rK_use (enters_of Tryd.func112 rfl (by decide)) (tfr (R := [.amap tabE]) rfl (by first | exact dd_lt _ | rfl) (t7_c (Pr.p1 ⟨18, xa, xb, xi⟩ s r) hx hs hq)) ?_
    simp only [go_sem,Nat.reduceAdd,Nat.reduceSub,Nat.reduceMul,Nat.reduceEqDiff,Nat.reduceLeDiff,Nat.reduceLT,↓reduceIte,Int.reduceToNat,reduceCtorEq,Int.reduceLT,Int.reduceLE,Int.reduceGT,Int.reduceGE,Int.reduceEq,Int.reduceNe,Int.reduceNeg,Int.reduceAdd,Int.reduceSub]
    exact finO _ _ _ (by rw [e0, tabR]; rfl)
  · subst h
    simp only [go_sem,Nat.reduceAdd,Nat.reduceSub,Nat.reduceMul,Nat.reduceEqDiff,Nat.reduceLeDiff,Nat.reduceLT,↓reduceIte,Int.reduceToNat,reduceCtorEq,Int.reduceLT,Int.reduceLE,Int.reduceGT,Int.reduceGE,Int.reduceEq,Int.reduceNe,Int.reduceNeg,Int.reduceAdd,Int.reduceSub,Pr.row]
    refine drawLL [.mn 0, .qu 0 1, .qu 0 1, .qu 0 1, .qu 0 1, .rd 0 1, .qu 1 1, .qu 0 1] 8 rfl (by kernel_rfl) (by kernel_rfl) (by kernel_rfl) (by kernel_rfl) ?_; simp only [List.take_succ_cons, List.take_zero]
    simp only [go_sem,Nat.reduceAdd,Nat.reduceSub,Nat.reduceMul,Nat.reduceEqDiff,Nat.reduceLeDiff,Nat.reduceLT,↓reduceIte,Int.reduceToNat,reduceCtorEq,Int.reduceLT,Int.reduceLE,Int.reduceGT,Int.reduceGE,Int.reduceEq,Int.reduceNe,Int.reduceNeg,Int.reduceAdd,Int.reduceSub]
    refine dM_call (enters_of Tryd.func99 rfl (by decide)) (table_c (.rows 31 [(Pr.p1 ⟨19, xa, xb, xi⟩ s r).row dnil]) (Pr.row_lt _ rfl 1)) ?_
    simp only [go_sem,Nat.reduceAdd,Nat.reduceSub,Nat.reduceMul,Nat.reduceEqDiff,Nat.reduceLeDiff,Nat.reduceLT,↓reduceIte,Int.reduceToNat,reduceCtorEq,Int.reduceLT,Int.reduceLE,Int.reduceGT,Int.reduceGE,Int.reduceEq,Int.reduceNe,Int.reduceNeg,Int.reduceAdd,Int.reduceSub,Pr.row,Pr.p1,Pr.toPc,Pr.start,tabE]
    refine rK_use (enters_of Tryd.func113 rfl (by decide)) (tfr (R := [.amap tabE]) rfl (by first | exact dd_lt _ | rfl) (t8_c (Pr.p1 ⟨19, xa, xb, xi⟩ s r) hx)) ?_
    simp only [go_sem,Nat.reduceAdd,Nat.reduceSub,Nat.reduceMul,Nat.reduceEqDiff,Nat.reduceLeDiff,Nat.reduceLT,↓reduceIte,Int.reduceToNat,reduceCtorEq,Int.reduceLT,Int.reduceLE,Int.reduceGT,Int.reduceGE,Int.reduceEq,Int.reduceNe,Int.reduceNeg,Int.reduceAdd,Int.reduceSub]
    exact finO _ _ _ (by rw [e0, tabR]; rfl)
  · subst h
    simp only [go_sem,Nat.reduceAdd,Nat.reduceSub,Nat.reduceMul,Nat.reduceEqDiff,Nat.reduceLeDiff,Nat.reduceLT,↓reduceIte,Int.reduceToNat,reduceCtorEq,Int.reduceLT,Int.reduceLE,Int.reduceGT,Int.reduceGE,Int.reduceEq,Int.reduceNe,Int.reduceNeg,Int.reduceAdd,Int.reduceSub,Pr.row]
    refine drawLL [.mn 0, .qu 0 1, .qu 0 1, .qu 0 1, .qu 0 1, .rd 0 1, .qu 1 1, .qu 0 1] 8 rfl (by kernel_rfl) (by kernel_rfl) (by kernel_rfl) (by kernel_rfl) ?_; simp only [List.take_succ_cons, List.take_zero]
    simp only [go_sem,Nat.reduceAdd,Nat.reduceSub,Nat.reduceMul,Nat.reduceEqDiff,Nat.reduceLeDiff,Nat.reduceLT,↓reduceIte,Int.reduceToNat,reduceCtorEq,Int.reduceLT,Int.reduceLE,Int.reduceGT,Int.reduceGE,Int.reduceEq,Int.reduceNe,Int.reduceNeg,Int.reduceAdd,Int.reduceSub]
    refine dM_call (enters_of Tryd.func99 rfl (by decide)) (table_c (.rows 31 [(Pr.p1 ⟨20, xa, xb, xi⟩ s r).row dnil]) (Pr.row_lt _ rfl 1)) ?_
    simp only [go_sem,Nat.reduceAdd,Nat.reduceSub,Nat.reduceMul,Nat.reduceEqDiff,Nat.reduceLeDiff,Nat.reduceLT,↓reduceIte,Int.reduceToNat,reduceCtorEq,Int.reduceLT,Int.reduceLE,Int.reduceGT,Int.reduceGE,Int.reduceEq,Int.reduceNe,Int.reduceNeg,Int.reduceAdd,Int.reduceSub,Pr.row,Pr.p1,Pr.toPc,Pr.start,tabE]
    refine rK_use (enters_of Tryd.func115 rfl (by decide)) (tfr (R := [.amap tabE]) rfl (by first | exact dd_lt _ | rfl) (t9_c (Pr.p1 ⟨20, xa, xb, xi⟩ s r) hx)) ?_
    simp only [go_sem,Nat.reduceAdd,Nat.reduceSub,Nat.reduceMul,Nat.reduceEqDiff,Nat.reduceLeDiff,Nat.reduceLT,↓reduceIte,Int.reduceToNat,reduceCtorEq,Int.reduceLT,Int.reduceLE,Int.reduceGT,Int.reduceGE,Int.reduceEq,Int.reduceNe,Int.reduceNeg,Int.reduceAdd,Int.reduceSub]
    exact finO _ _ _ (by rw [e0, tabR]; rfl)
  · subst h
    simp only [go_sem,Nat.reduceAdd,Nat.reduceSub,Nat.reduceMul,Nat.reduceEqDiff,Nat.reduceLeDiff,Nat.reduceLT,↓reduceIte,Int.reduceToNat,reduceCtorEq,Int.reduceLT,Int.reduceLE,Int.reduceGT,Int.reduceGE,Int.reduceEq,Int.reduceNe,Int.reduceNeg,Int.reduceAdd,Int.reduceSub,Pr.row]
    refine drawLL [.mn 0, .qu 0 1, .qu 0 1, .qu 0 1, .qu 0 1, .rd 0 1, .qu 1 1, .qu 0 1] 8 rfl (by kernel_rfl) (by kernel_rfl) (by kernel_rfl) (by kernel_rfl) ?_; simp only [List.take_succ_cons, List.take_zero]
    simp only [go_sem,Nat.reduceAdd,Nat.reduceSub,Nat.reduceMul,Nat.reduceEqDiff,Nat.reduceLeDiff,Nat.reduceLT,↓reduceIte,Int.reduceToNat,reduceCtorEq,Int.reduceLT,Int.reduceLE,Int.reduceGT,Int.reduceGE,Int.reduceEq,Int.reduceNe,Int.reduceNeg,Int.reduceAdd,Int.reduceSub]
    refine dM_call (enters_of Tryd.func99 rfl (by decide)) (table_c (.rows 31 [(Pr.p1 ⟨27, xa, xb, xi⟩ s r).row dnil]) (Pr.row_lt _ rfl 1)) ?_
    simp only [go_sem,Nat.reduceAdd,Nat.reduceSub,Nat.reduceMul,Nat.reduceEqDiff,Nat.reduceLeDiff,Nat.reduceLT,↓reduceIte,Int.reduceToNat,reduceCtorEq,Int.reduceLT,Int.reduceLE,Int.reduceGT,Int.reduceGE,Int.reduceEq,Int.reduceNe,Int.reduceNeg,Int.reduceAdd,Int.reduceSub,Pr.row,Pr.p1,Pr.toPc,Pr.start,tabE]
    refine rK_use (enters_of Tryd.func116 rfl (by decide)) (tfr (R := [.amap tabE]) rfl (by first | exact dd_lt _ | rfl) (t10_c (Pr.p1 ⟨27, xa, xb, xi⟩ s r) hx)) ?_
    simp only [go_sem,Nat.reduceAdd,Nat.reduceSub,Nat.reduceMul,Nat.reduceEqDiff,Nat.reduceLeDiff,Nat.reduceLT,↓reduceIte,Int.reduceToNat,reduceCtorEq,Int.reduceLT,Int.reduceLE,Int.reduceGT,Int.reduceGE,Int.reduceEq,Int.reduceNe,Int.reduceNeg,Int.reduceAdd,Int.reduceSub]
    exact finO _ _ _ (by rw [e0, tabR]; rfl)
  · subst h
    simp only [go_sem,Nat.reduceAdd,Nat.reduceSub,Nat.reduceMul,Nat.reduceEqDiff,Nat.reduceLeDiff,Nat.reduceLT,↓reduceIte,Int.reduceToNat,reduceCtorEq,Int.reduceLT,Int.reduceLE,Int.reduceGT,Int.reduceGE,Int.reduceEq,Int.reduceNe,Int.reduceNeg,Int.reduceAdd,Int.reduceSub,Pr.row]
    refine drawLL [.mn 0, .qu 0 1, .qu 0 1, .qu 0 1, .qu 0 1, .rd 0 1, .qu 1 1, .qu 0 1] 8 rfl (by kernel_rfl) (by kernel_rfl) (by kernel_rfl) (by kernel_rfl) ?_; simp only [List.take_succ_cons, List.take_zero]
    simp only [go_sem,Nat.reduceAdd,Nat.reduceSub,Nat.reduceMul,Nat.reduceEqDiff,Nat.reduceLeDiff,Nat.reduceLT,↓reduceIte,Int.reduceToNat,reduceCtorEq,Int.reduceLT,Int.reduceLE,Int.reduceGT,Int.reduceGE,Int.reduceEq,Int.reduceNe,Int.reduceNeg,Int.reduceAdd,Int.reduceSub]
    refine dM_call (enters_of Tryd.func99 rfl (by decide)) (table_c (.rows 31 [(Pr.p1 ⟨28, xa, xb, xi⟩ s r).row dnil]) (Pr.row_lt _ rfl 1)) ?_
    simp only [go_sem,Nat.reduceAdd,Nat.reduceSub,Nat.reduceMul,Nat.reduceEqDiff,Nat.reduceLeDiff,Nat.reduceLT,↓reduceIte,Int.reduceToNat,reduceCtorEq,Int.reduceLT,Int.reduceLE,Int.reduceGT,Int.reduceGE,Int.reduceEq,Int.reduceNe,Int.reduceNeg,Int.reduceAdd,Int.reduceSub,Pr.row,Pr.p1,Pr.toPc,Pr.start,tabE]
    refine rK_use (enters_of Tryd.func118 rfl (by decide)) (tfr (R := [.amap tabE]) rfl (by first | exact dd_lt _ | rfl) (t11_c (Pr.p1 ⟨28, xa, xb, xi⟩ s r) hx)) ?_
    simp only [go_sem,Nat.reduceAdd,Nat.reduceSub,Nat.reduceMul,Nat.reduceEqDiff,Nat.reduceLeDiff,Nat.reduceLT,↓reduceIte,Int.reduceToNat,reduceCtorEq,Int.reduceLT,Int.reduceLE,Int.reduceGT,Int.reduceGE,Int.reduceEq,Int.reduceNe,Int.reduceNeg,Int.reduceAdd,Int.reduceSub]
    exact finO _ _ _ (by rw [e0, tabR]; rfl)
  · subst h
    have hq := flt_perm0 _ _ (ffault0 hf ⟨r.r7, 8, false⟩ (by simp [foot]))
    simp only [go_sem,Nat.reduceAdd,Nat.reduceSub,Nat.reduceMul,Nat.reduceEqDiff,Nat.reduceLeDiff,Nat.reduceLT,↓reduceIte,Int.reduceToNat,reduceCtorEq,Int.reduceLT,Int.reduceLE,Int.reduceGT,Int.reduceGE,Int.reduceEq,Int.reduceNe,Int.reduceNeg,Int.reduceAdd,Int.reduceSub,Pr.row]
    refine drawLL [.mn 0, .qu 0 1, .qu 0 1, .qu 0 1, .qu 0 1, .rd 0 1, .qu 1 1, .qu 0 1] 8 rfl (by kernel_rfl) (by kernel_rfl) (by kernel_rfl) (by kernel_rfl) ?_; simp only [List.take_succ_cons, List.take_zero]
    simp only [go_sem,Nat.reduceAdd,Nat.reduceSub,Nat.reduceMul,Nat.reduceEqDiff,Nat.reduceLeDiff,Nat.reduceLT,↓reduceIte,Int.reduceToNat,reduceCtorEq,Int.reduceLT,Int.reduceLE,Int.reduceGT,Int.reduceGE,Int.reduceEq,Int.reduceNe,Int.reduceNeg,Int.reduceAdd,Int.reduceSub]
    refine dM_call (enters_of Tryd.func99 rfl (by decide)) (table_c (.rows 31 [(Pr.p1 ⟨29, xa, xb, xi⟩ s r).row dnil]) (Pr.row_lt _ rfl 1)) ?_
    simp only [go_sem,Nat.reduceAdd,Nat.reduceSub,Nat.reduceMul,Nat.reduceEqDiff,Nat.reduceLeDiff,Nat.reduceLT,↓reduceIte,Int.reduceToNat,reduceCtorEq,Int.reduceLT,Int.reduceLE,Int.reduceGT,Int.reduceGE,Int.reduceEq,Int.reduceNe,Int.reduceNeg,Int.reduceAdd,Int.reduceSub,Pr.row,Pr.p1,Pr.toPc,Pr.start,tabE]
    refine rK_use (enters_of Tryd.func119 rfl (by decide)) (tfr (R := [.amap tabE]) rfl (by first | exact dd_lt _ | rfl) (t12_c (Pr.p1 ⟨29, xa, xb, xi⟩ s r) hx hs h7 hq)) ?_
    simp only [go_sem,Nat.reduceAdd,Nat.reduceSub,Nat.reduceMul,Nat.reduceEqDiff,Nat.reduceLeDiff,Nat.reduceLT,↓reduceIte,Int.reduceToNat,reduceCtorEq,Int.reduceLT,Int.reduceLE,Int.reduceGT,Int.reduceGE,Int.reduceEq,Int.reduceNe,Int.reduceNeg,Int.reduceAdd,Int.reduceSub]
    exact finO _ _ _ (by rw [e0, tabR]; rfl)
  · subst h
    simp only [go_sem,Nat.reduceAdd,Nat.reduceSub,Nat.reduceMul,Nat.reduceEqDiff,Nat.reduceLeDiff,Nat.reduceLT,↓reduceIte,Int.reduceToNat,reduceCtorEq,Int.reduceLT,Int.reduceLE,Int.reduceGT,Int.reduceGE,Int.reduceEq,Int.reduceNe,Int.reduceNeg,Int.reduceAdd,Int.reduceSub,Pr.row]
    refine drawLL [.mn 0, .qu 0 1, .qu 0 1, .qu 0 1, .qu 0 1, .rd 0 1, .qu 1 1, .qu 0 1] 8 rfl (by kernel_rfl) (by kernel_rfl) (by kernel_rfl) (by kernel_rfl) ?_; simp only [List.take_succ_cons, List.take_zero]
    simp only [go_sem,Nat.reduceAdd,Nat.reduceSub,Nat.reduceMul,Nat.reduceEqDiff,Nat.reduceLeDiff,Nat.reduceLT,↓reduceIte,Int.reduceToNat,reduceCtorEq,Int.reduceLT,Int.reduceLE,Int.reduceGT,Int.reduceGE,Int.reduceEq,Int.reduceNe,Int.reduceNeg,Int.reduceAdd,Int.reduceSub]
    refine dM_call (enters_of Tryd.func99 rfl (by decide)) (table_c (.rows 31 [(Pr.p1 ⟨30, xa, xb, xi⟩ s r).row dnil]) (Pr.row_lt _ rfl 1)) ?_
    simp only [go_sem,Nat.reduceAdd,Nat.reduceSub,Nat.reduceMul,Nat.reduceEqDiff,Nat.reduceLeDiff,Nat.reduceLT,↓reduceIte,Int.reduceToNat,reduceCtorEq,Int.reduceLT,Int.reduceLE,Int.reduceGT,Int.reduceGE,Int.reduceEq,Int.reduceNe,Int.reduceNeg,Int.reduceAdd,Int.reduceSub,Pr.row,Pr.p1,Pr.toPc,Pr.start,tabE]
    refine rK_use (enters_of Tryd.func120 rfl (by decide)) (tfr (R := [.amap tabE]) rfl (by first | exact dd_lt _ | rfl) (t13_c (Pr.p1 ⟨30, xa, xb, xi⟩ s r) hx)) ?_
    simp only [go_sem,Nat.reduceAdd,Nat.reduceSub,Nat.reduceMul,Nat.reduceEqDiff,Nat.reduceLeDiff,Nat.reduceLT,↓reduceIte,Int.reduceToNat,reduceCtorEq,Int.reduceLT,Int.reduceLE,Int.reduceGT,Int.reduceGE,Int.reduceEq,Int.reduceNe,Int.reduceNeg,Int.reduceAdd,Int.reduceSub]
    exact finO _ _ _ (by rw [e0, tabR]; rfl)
  · subst h
    have hq := flt_perm0 _ _ (ffault0 hf ⟨r.r7, 8, false⟩ (by simp [foot]))
    simp only [go_sem,Nat.reduceAdd,Nat.reduceSub,Nat.reduceMul,Nat.reduceEqDiff,Nat.reduceLeDiff,Nat.reduceLT,↓reduceIte,Int.reduceToNat,reduceCtorEq,Int.reduceLT,Int.reduceLE,Int.reduceGT,Int.reduceGE,Int.reduceEq,Int.reduceNe,Int.reduceNeg,Int.reduceAdd,Int.reduceSub,Pr.row]
    refine drawLL [.mn 0, .qu 0 1, .qu 0 1, .qu 0 1, .qu 0 1, .rd 0 1, .qu 1 1, .qu 0 1] 8 rfl (by kernel_rfl) (by kernel_rfl) (by kernel_rfl) (by kernel_rfl) ?_; simp only [List.take_succ_cons, List.take_zero]
    simp only [go_sem,Nat.reduceAdd,Nat.reduceSub,Nat.reduceMul,Nat.reduceEqDiff,Nat.reduceLeDiff,Nat.reduceLT,↓reduceIte,Int.reduceToNat,reduceCtorEq,Int.reduceLT,Int.reduceLE,Int.reduceGT,Int.reduceGE,Int.reduceEq,Int.reduceNe,Int.reduceNeg,Int.reduceAdd,Int.reduceSub]
    refine dM_call (enters_of Tryd.func99 rfl (by decide)) (table_c (.rows 31 [(Pr.p1 ⟨31, xa, xb, xi⟩ s r).row dnil]) (Pr.row_lt _ rfl 1)) ?_
    simp only [go_sem,Nat.reduceAdd,Nat.reduceSub,Nat.reduceMul,Nat.reduceEqDiff,Nat.reduceLeDiff,Nat.reduceLT,↓reduceIte,Int.reduceToNat,reduceCtorEq,Int.reduceLT,Int.reduceLE,Int.reduceGT,Int.reduceGE,Int.reduceEq,Int.reduceNe,Int.reduceNeg,Int.reduceAdd,Int.reduceSub,Pr.row,Pr.p1,Pr.toPc,Pr.start,tabE]
    refine rK_use (enters_of Tryd.func121 rfl (by decide)) (tfr (R := [.amap tabE]) rfl (by first | exact dd_lt _ | rfl) (t14_c (Pr.p1 ⟨31, xa, xb, xi⟩ s r) hx hs h7 hq)) ?_
    simp only [go_sem,Nat.reduceAdd,Nat.reduceSub,Nat.reduceMul,Nat.reduceEqDiff,Nat.reduceLeDiff,Nat.reduceLT,↓reduceIte,Int.reduceToNat,reduceCtorEq,Int.reduceLT,Int.reduceLE,Int.reduceGT,Int.reduceGE,Int.reduceEq,Int.reduceNe,Int.reduceNeg,Int.reduceAdd,Int.reduceSub]
    exact finO _ _ _ (by rw [e0, tabR]; rfl)
  · subst h
    simp only [go_sem,Nat.reduceAdd,Nat.reduceSub,Nat.reduceMul,Nat.reduceEqDiff,Nat.reduceLeDiff,Nat.reduceLT,↓reduceIte,Int.reduceToNat,reduceCtorEq,Int.reduceLT,Int.reduceLE,Int.reduceGT,Int.reduceGE,Int.reduceEq,Int.reduceNe,Int.reduceNeg,Int.reduceAdd,Int.reduceSub,Pr.row]
    refine drawLL [.mn 0, .qu 0 1, .qu 0 1, .qu 0 1, .qu 0 1, .rd 0 1, .qu 1 1, .qu 0 1] 8 rfl (by kernel_rfl) (by kernel_rfl) (by kernel_rfl) (by kernel_rfl) ?_; simp only [List.take_succ_cons, List.take_zero]
    simp only [go_sem,Nat.reduceAdd,Nat.reduceSub,Nat.reduceMul,Nat.reduceEqDiff,Nat.reduceLeDiff,Nat.reduceLT,↓reduceIte,Int.reduceToNat,reduceCtorEq,Int.reduceLT,Int.reduceLE,Int.reduceGT,Int.reduceGE,Int.reduceEq,Int.reduceNe,Int.reduceNeg,Int.reduceAdd,Int.reduceSub]
    refine dM_call (enters_of Tryd.func99 rfl (by decide)) (table_c (.rows 31 [(Pr.p1 ⟨32, xa, xb, xi⟩ s r).row dnil]) (Pr.row_lt _ rfl 1)) ?_
    simp only [go_sem,Nat.reduceAdd,Nat.reduceSub,Nat.reduceMul,Nat.reduceEqDiff,Nat.reduceLeDiff,Nat.reduceLT,↓reduceIte,Int.reduceToNat,reduceCtorEq,Int.reduceLT,Int.reduceLE,Int.reduceGT,Int.reduceGE,Int.reduceEq,Int.reduceNe,Int.reduceNeg,Int.reduceAdd,Int.reduceSub,Pr.row,Pr.p1,Pr.toPc,Pr.start,tabE]
    refine rK_use (enters_of Tryd.func122 rfl (by decide)) (tfr (R := [.amap tabE]) rfl (by first | exact dd_lt _ | rfl) (t15_c (Pr.p1 ⟨32, xa, xb, xi⟩ s r) hx)) ?_
    simp only [go_sem,Nat.reduceAdd,Nat.reduceSub,Nat.reduceMul,Nat.reduceEqDiff,Nat.reduceLeDiff,Nat.reduceLT,↓reduceIte,Int.reduceToNat,reduceCtorEq,Int.reduceLT,Int.reduceLE,Int.reduceGT,Int.reduceGE,Int.reduceEq,Int.reduceNe,Int.reduceNeg,Int.reduceAdd,Int.reduceSub]
    exact finO _ _ _ (by rw [e0, tabR]; rfl)
  · subst h
    have hi0 : iw .i64 xi = xi := by
      have : fits 8 xi = true := hx.im
      simp [fits] at this
      exact iw64 (by omega) (by omega)
    simp only [go_sem,Nat.reduceAdd,Nat.reduceSub,Nat.reduceMul,Nat.reduceEqDiff,Nat.reduceLeDiff,Nat.reduceLT,↓reduceIte,Int.reduceToNat,reduceCtorEq,Int.reduceLT,Int.reduceLE,Int.reduceGT,Int.reduceGE,Int.reduceEq,Int.reduceNe,Int.reduceNeg,Int.reduceAdd,Int.reduceSub,Pr.row]
    refine drawLL [.mn 0, .qu 0 1, .qu 0 1, .qu 0 1, .qu 0 1, .rd 0 1, .qu 1 1, .qu 0 1] 8 rfl (by kernel_rfl) (by kernel_rfl) (by kernel_rfl) (by kernel_rfl) ?_; simp only [List.take_succ_cons, List.take_zero]
    simp only [go_sem,Nat.reduceAdd,Nat.reduceSub,Nat.reduceMul,Nat.reduceEqDiff,Nat.reduceLeDiff,Nat.reduceLT,↓reduceIte,Int.reduceToNat,reduceCtorEq,Int.reduceLT,Int.reduceLE,Int.reduceGT,Int.reduceGE,Int.reduceEq,Int.reduceNe,Int.reduceNeg,Int.reduceAdd,Int.reduceSub]
    refine dM_call (enters_of Tryd.func99 rfl (by decide)) (table_c (.rows 31 [(Pr.p1 ⟨33, xa, xb, xi⟩ s r).row dnil]) (Pr.row_lt _ rfl 1)) ?_
    simp only [go_sem,Nat.reduceAdd,Nat.reduceSub,Nat.reduceMul,Nat.reduceEqDiff,Nat.reduceLeDiff,Nat.reduceLT,↓reduceIte,Int.reduceToNat,reduceCtorEq,Int.reduceLT,Int.reduceLE,Int.reduceGT,Int.reduceGE,Int.reduceEq,Int.reduceNe,Int.reduceNeg,Int.reduceAdd,Int.reduceSub,Pr.row,Pr.p1,Pr.toPc,Pr.start,tabE]
    refine rK_use (enters_of Tryd.func123 rfl (by decide)) (tfr (R := [.amap tabE]) rfl (by first | exact dd_lt _ | rfl) (t16_c (Pr.p1 ⟨33, xa, xb, xi⟩ s r) hx hi0)) ?_
    simp only [go_sem,Nat.reduceAdd,Nat.reduceSub,Nat.reduceMul,Nat.reduceEqDiff,Nat.reduceLeDiff,Nat.reduceLT,↓reduceIte,Int.reduceToNat,reduceCtorEq,Int.reduceLT,Int.reduceLE,Int.reduceGT,Int.reduceGE,Int.reduceEq,Int.reduceNe,Int.reduceNeg,Int.reduceAdd,Int.reduceSub]
    exact finO _ _ _ (by rw [e0, tabR]; rfl)
  · subst h
    have hq := flt_perm0 _ _ (ffault0 hf ⟨iw .i64 (r.get xb + xi), 8, false⟩ (by simp [foot]))
    have hi0 : xi = 0 := swap_imm hx rfl
    have hb0 : iw .i64 (r.get xb + xi) = r.get xb := by rw [hi0, Int.add_zero]; exact (hr.get xb).iw
    rw [hb0] at hq
    simp only [go_sem,Nat.reduceAdd,Nat.reduceSub,Nat.reduceMul,Nat.reduceEqDiff,Nat.reduceLeDiff,Nat.reduceLT,↓reduceIte,Int.reduceToNat,reduceCtorEq,Int.reduceLT,Int.reduceLE,Int.reduceGT,Int.reduceGE,Int.reduceEq,Int.reduceNe,Int.reduceNeg,Int.reduceAdd,Int.reduceSub,Pr.row]
    refine drawLL [.mn 0, .qu 0 1, .qu 0 1, .qu 0 1, .qu 0 1, .rd 0 1, .qu 1 1, .qu 0 1] 8 rfl (by kernel_rfl) (by kernel_rfl) (by kernel_rfl) (by kernel_rfl) ?_; simp only [List.take_succ_cons, List.take_zero]
    simp only [go_sem,Nat.reduceAdd,Nat.reduceSub,Nat.reduceMul,Nat.reduceEqDiff,Nat.reduceLeDiff,Nat.reduceLT,↓reduceIte,Int.reduceToNat,reduceCtorEq,Int.reduceLT,Int.reduceLE,Int.reduceGT,Int.reduceGE,Int.reduceEq,Int.reduceNe,Int.reduceNeg,Int.reduceAdd,Int.reduceSub]
    refine dM_call (enters_of Tryd.func99 rfl (by decide)) (table_c (.rows 31 [(Pr.p1 ⟨34, xa, xb, xi⟩ s r).row dnil]) (Pr.row_lt _ rfl 1)) ?_
    simp only [go_sem,Nat.reduceAdd,Nat.reduceSub,Nat.reduceMul,Nat.reduceEqDiff,Nat.reduceLeDiff,Nat.reduceLT,↓reduceIte,Int.reduceToNat,reduceCtorEq,Int.reduceLT,Int.reduceLE,Int.reduceGT,Int.reduceGE,Int.reduceEq,Int.reduceNe,Int.reduceNeg,Int.reduceAdd,Int.reduceSub,Pr.row,Pr.p1,Pr.toPc,Pr.start,tabE]
    refine rK_use (enters_of Tryd.func124 rfl (by decide)) (tfr (R := [.amap tabE]) rfl (by first | exact dd_lt _ | rfl) (t17_c (Pr.p1 ⟨34, xa, xb, xi⟩ s r) hx hs (hr.get xb) hq)) ?_
    simp only [go_sem,Nat.reduceAdd,Nat.reduceSub,Nat.reduceMul,Nat.reduceEqDiff,Nat.reduceLeDiff,Nat.reduceLT,↓reduceIte,Int.reduceToNat,reduceCtorEq,Int.reduceLT,Int.reduceLE,Int.reduceGT,Int.reduceGE,Int.reduceEq,Int.reduceNe,Int.reduceNeg,Int.reduceAdd,Int.reduceSub]
    exact finO _ _ _ (by rw [e0, tabR]; rfl)
  · subst h
    simp only [go_sem,Nat.reduceAdd,Nat.reduceSub,Nat.reduceMul,Nat.reduceEqDiff,Nat.reduceLeDiff,Nat.reduceLT,↓reduceIte,Int.reduceToNat,reduceCtorEq,Int.reduceLT,Int.reduceLE,Int.reduceGT,Int.reduceGE,Int.reduceEq,Int.reduceNe,Int.reduceNeg,Int.reduceAdd,Int.reduceSub,Pr.row]
    refine drawLL [.mn 0, .qu 0 1, .qu 0 1, .qu 0 1, .qu 0 1, .rd 0 1, .qu 1 1, .qu 0 1] 8 rfl (by kernel_rfl) (by kernel_rfl) (by kernel_rfl) (by kernel_rfl) ?_; simp only [List.take_succ_cons, List.take_zero]
    simp only [go_sem,Nat.reduceAdd,Nat.reduceSub,Nat.reduceMul,Nat.reduceEqDiff,Nat.reduceLeDiff,Nat.reduceLT,↓reduceIte,Int.reduceToNat,reduceCtorEq,Int.reduceLT,Int.reduceLE,Int.reduceGT,Int.reduceGE,Int.reduceEq,Int.reduceNe,Int.reduceNeg,Int.reduceAdd,Int.reduceSub]
    refine dM_call (enters_of Tryd.func99 rfl (by decide)) (table_c (.rows 31 [(Pr.p1 ⟨76, xa, xb, xi⟩ s r).row dnil]) (Pr.row_lt _ rfl 1)) ?_
    simp only [go_sem,Nat.reduceAdd,Nat.reduceSub,Nat.reduceMul,Nat.reduceEqDiff,Nat.reduceLeDiff,Nat.reduceLT,↓reduceIte,Int.reduceToNat,reduceCtorEq,Int.reduceLT,Int.reduceLE,Int.reduceGT,Int.reduceGE,Int.reduceEq,Int.reduceNe,Int.reduceNeg,Int.reduceAdd,Int.reduceSub,Pr.row,Pr.p1,Pr.toPc,Pr.start,tabE]
    refine rK_pans (enters_of Tryd.func125 rfl (by decide)) (ACalls.framep (H0 := [.rows 31 [(Pr.p1 ⟨76, xa, xb, xi⟩ s r).row dnil]]) (R := [.amap tabE]) (t18_c (Pr.p1 ⟨76, xa, xb, xi⟩ s r)) rfl rfl (row1_lt _ rfl) (row1_lt _ rfl) rfl) ?_
    simp only [go_sem,Nat.reduceAdd,Nat.reduceSub,Nat.reduceMul,Nat.reduceEqDiff,Nat.reduceLeDiff,Nat.reduceLT,↓reduceIte,Int.reduceToNat,reduceCtorEq,Int.reduceLT,Int.reduceLE,Int.reduceGT,Int.reduceGE,Int.reduceEq,Int.reduceNe,Int.reduceNeg,Int.reduceAdd,Int.reduceSub]
    exact finT ⟨2, 0, ⟨0, 0⟩⟩ _ _ (by rw [e0, tabR]; rfl)
end Go.Proofs.YtojfnagfafoiaaaDoor

set_option maxRecDepth 100000
set_option linter.unusedVariables false
set_option linter.unusedSimpArgs false
namespace Go.Proofs.YtojfnagfafoiaaaDoor
open Go.AM
structure Eff where
  rg : Rg
  pos : Int
  data : List UInt8
  trap : Trp
  x : Ins
def Eff.cellsD (e : Eff) (d : AV) : List AV :=
  [iv e.rg.r0, iv e.rg.r1, iv e.rg.r2, iv e.rg.r3, iv e.rg.r4, iv e.rg.r5, iv e.rg.r6, iv e.rg.r7, iv e.rg.pc, iv e.pos, d, iv e.trap.kind, iv e.trap.n, iv e.trap.f.kind, iv e.trap.f.pos, iv e.x.op, iv e.x.a, iv e.x.b, iv e.x.imm]
def Eff.cells (e : Eff) : List AV := e.cellsD (dby e.data)
def Eff.av (e : Eff) : AV := .agg e.cells
theorem Eff.av_lt (e : Eff) (m : Nat) : e.av.lt m = true := by simp [Eff.av, Eff.cells, Eff.cellsD, AV.lt, ltL]
def Res.eff (x : Ins) (r : Rg) : Res → Eff
  | .tr t _ => ⟨r, 0, [], t, x⟩
  | .ok p d => ⟨p.rg, p.pos, d, ⟨p.tk, p.tn, ⟨0, 0⟩⟩, x⟩
def exec (x : Ins) (s : Sp) (r : Rg) : Eff := (effect x s r).eff x r
theorem leL_dnil (e : Eff) : LeL (e.cellsD dnil) (e.cellsD (dby [])) := by
  unfold Eff.cellsD
  repeat' (first | exact LeL.nil | refine LeL.cons (.refl _) ?_ | refine LeL.cons (.nil true false 0 1 (by simp)) ?_)
theorem exec_res : Tryd.f52.results.toList = [ResultVar.cell 6 37] := rfl
theorem exec_c (x : Ins) (hx : x.ok) (s : Sp) (hs : s.ok) (r : Rg) (hr : r.wf) :
    ACalls Tryd.prog 52 [x.av, s.av, r.av] [] (fun o H => o = .ret (exec x s r).av ∧ H = []) := by
  refine ACalls.up ?_
  refine ACalls.introD (n := 43) Tryd.func52 rfl (by kernel_rfl) rfl ?_
  refine DWp.seq (by kernel_rfl) ?_
  generalize hpost : (fun (o : Out) (H : Heap) => o = Out.ret (exec x s r).av ∧ H = []) = post
  have fin : ∀ (e : Eff) H, e = exec x s r → Up 0 post (.ret (.agg (e.cellsD (dby e.data)))) H := fun e H h => finv (Eff.av_lt e 0) (by rw [← hpost, ← h]; exact ⟨rfl, rfl⟩) H
  have finN : ∀ (e : Eff) H, e = exec x s r → e.data = [] → Up 0 post (.ret (.agg (e.cellsD dnil))) H := fun e H h hd => .le (.ret (.agg (leL_dnil e))) (LeH.refl _) (by have := fin e H h; rwa [hd] at this)
  simp only [go_sem,Nat.reduceAdd,Nat.reduceSub,Nat.reduceMul,Nat.reduceEqDiff,Nat.reduceLeDiff,Nat.reduceLT,↓reduceIte,Int.reduceToNat,reduceCtorEq,Int.reduceLT,Int.reduceLE,Int.reduceGT,Int.reduceGE,Int.reduceEq,Int.reduceNe,Int.reduceNeg,Int.reduceAdd,Int.reduceSub,Ins.av,Ins.cells,Sp.av,Rg.av,Rg.cells]
  refine DWp.defer (by kernel_rfl) rfl (by kernel_rfl) (by kernel_rfl) ?_
  simp only [go_sem,Nat.reduceAdd,Nat.reduceSub,Nat.reduceMul,Nat.reduceEqDiff,Nat.reduceLeDiff,Nat.reduceLT,↓reduceIte,Int.reduceToNat,reduceCtorEq,Int.reduceLT,Int.reduceLE,Int.reduceGT,Int.reduceGE,Int.reduceEq,Int.reduceNe,Int.reduceNeg,Int.reduceAdd,Int.reduceSub]
  refine ⟨(enters_of Tryd.func84 rfl (by decide)), fun d => ?_⟩
  refine draw [.qu 0 0, .qu 0 0, .qu 0 0, .qu 0 0, .qu 0 0, .qu 0 0, .qu 0 0, .qu 0 0, .qu 0 0, .qu 0 0, .qu 0 0, .qu 0 0, .qu 0 0, .mn 0, .qu 1 1] (by kernel_rfl) (by kernel_rfl) ?_
  simp only [go_sem,Nat.reduceAdd,Nat.reduceSub,Nat.reduceMul,Nat.reduceEqDiff,Nat.reduceLeDiff,Nat.reduceLT,↓reduceIte,Int.reduceToNat,reduceCtorEq,Int.reduceLT,Int.reduceLE,Int.reduceGT,Int.reduceGE,Int.reduceEq,Int.reduceNe,Int.reduceNeg,Int.reduceAdd,Int.reduceSub,Ins.cells,Rg.cells]
  refine y_call (enters_of Tryd.func24 rfl (by decide)) (fun _ => ACalls.pure_use (ilen_c x hx) rfl rfl) ?_
  simp only [go_sem,Nat.reduceAdd,Nat.reduceSub,Nat.reduceMul,Nat.reduceEqDiff,Nat.reduceLeDiff,Nat.reduceLT,↓reduceIte,Int.reduceToNat,reduceCtorEq,Int.reduceLT,Int.reduceLE,Int.reduceGT,Int.reduceGE,Int.reduceEq,Int.reduceNe,Int.reduceNeg,Int.reduceAdd,Int.reduceSub]
  refine y_call (enters_of Tryd.func85 rfl (by decide)) (fun _ => ACalls.pure_use (mustI_c _) rfl rfl) ?_
  have hl : iw .i64 (x.len : Int) = x.len := by have := flen_le (kform x.op); exact iw64 (by unfold Ins.len; omega) (by unfold Ins.len; omega)
  simp only [go_sem,Nat.reduceAdd,Nat.reduceSub,Nat.reduceMul,Nat.reduceEqDiff,Nat.reduceLeDiff,Nat.reduceLT,↓reduceIte,Int.reduceToNat,reduceCtorEq,Int.reduceLT,Int.reduceLE,Int.reduceGT,Int.reduceGE,Int.reduceEq,Int.reduceNe,Int.reduceNeg,Int.reduceAdd,Int.reduceSub,hl]
  have hc := execute_c x hx s hs r hr
  cases he : effect x s r with
  | tr t p =>
    rw [he] at hc
    have hc' : ACalls Tryd.prog 86 [.ptr 0 0 0] [.rows 31 [(Pr.start x s r).row dnil]] (fun o H => o = .pan (trapV t) ∧ H = [.rows 31 [p.row dnil]]) := hc
    refine rK_pans (enters_of Tryd.func86 rfl (by decide)) (hc'.panE [4] (trapV t) [.rows 4 [[iv x.op, iv x.a, iv x.b, iv x.imm]], .rows 2 [[.view false 1 (s.perm.map r1), .view false 1 (s.byt.map rb)]], .rows 9 [[iv r.r0, iv r.r1, iv r.r2, iv r.r3, iv r.r4, iv r.r5, iv r.r6, iv r.r7, iv r.pc]], .rows 19 [Eff.cellsD ⟨⟨0, 0, 0, 0, 0, 0, 0, 0, 0⟩, 0, [], ⟨0, 0, ⟨0, 0⟩⟩, ⟨0, 0, 0, 0⟩⟩ dnil], .rows 31 [p.row dnil]] (by decide) rfl (by simp) rfl rfl rfl rfl) ?_
    simp only [go_sem,Nat.reduceAdd,Nat.reduceSub,Nat.reduceMul,Nat.reduceEqDiff,Nat.reduceLeDiff,Nat.reduceLT,↓reduceIte,Int.reduceToNat,reduceCtorEq,Int.reduceLT,Int.reduceLE,Int.reduceGT,Int.reduceGE,Int.reduceEq,Int.reduceNe,Int.reduceNeg,Int.reduceAdd,Int.reduceSub,trapV,Trp.cells,Eff.cellsD]
    refine ADef.intro (n := 17) Tryd.func84 rfl rfl (by kernel_rfl) rfl (by kernel_rfl) ?_
    simp only [go_sem,Nat.reduceAdd,Nat.reduceSub,Nat.reduceMul,Nat.reduceEqDiff,Nat.reduceLeDiff,Nat.reduceLT,↓reduceIte,Int.reduceToNat,reduceCtorEq,Int.reduceLT,Int.reduceLE,Int.reduceGT,Int.reduceGE,Int.reduceEq,Int.reduceNe,Int.reduceNeg,Int.reduceAdd,Int.reduceSub,exec_res]
    exact finN ⟨r, 0, [], t, x⟩ _ (by rw [exec, he]; rfl) rfl
  | ok p d' =>
    rw [he] at hc
    have hc' : ACalls Tryd.prog 86 [.ptr 0 0 0] [.rows 31 [(Pr.start x s r).row dnil]] (fun o H => o = .ret (.tuple []) ∧ H = [.rows 31 [p.row (dav d')]]) := hc
    refine rK_use (enters_of Tryd.func86 rfl (by decide)) (hc'.useE [4] (.tuple []) [.rows 4 [[iv x.op, iv x.a, iv x.b, iv x.imm]], .rows 2 [[.view false 1 (s.perm.map r1), .view false 1 (s.byt.map rb)]], .rows 9 [[iv r.r0, iv r.r1, iv r.r2, iv r.r3, iv r.r4, iv r.r5, iv r.r6, iv r.r7, iv r.pc]], .rows 19 [Eff.cellsD ⟨⟨0, 0, 0, 0, 0, 0, 0, 0, 0⟩, 0, [], ⟨0, 0, ⟨0, 0⟩⟩, ⟨0, 0, 0, 0⟩⟩ dnil], .rows 31 [p.row (dav d')]] (by decide) rfl (by simp) rfl rfl rfl (by cases d' <;> rfl)) ?_
    simp only [go_sem,Nat.reduceAdd,Nat.reduceSub,Nat.reduceMul,Nat.reduceEqDiff,Nat.reduceLeDiff,Nat.reduceLT,↓reduceIte,Int.reduceToNat,reduceCtorEq,Int.reduceLT,Int.reduceLE,Int.reduceGT,Int.reduceGE,Int.reduceEq,Int.reduceNe,Int.reduceNeg,Int.reduceAdd,Int.reduceSub]
    refine draw [.qu 0 0, .qu 0 0, .qu 0 0, .qu 0 0, .qu 0 0, .qu 0 0, .qu 0 0, .qu 0 0, .qu 0 0, .qu 0 0, .qu 0 0, .qu 0 0, .qu 0 0, .qu 0 0, .qu 0 0, .qu 0 0, .qu 0 0, .qu 0 0, .mn 0] (by kernel_rfl) (by kernel_rfl) ?_
    cases d' with
    | nil =>
      simp only [go_sem,Nat.reduceAdd,Nat.reduceSub,Nat.reduceMul,Nat.reduceEqDiff,Nat.reduceLeDiff,Nat.reduceLT,↓reduceIte,Int.reduceToNat,reduceCtorEq,Int.reduceLT,Int.reduceLE,Int.reduceGT,Int.reduceGE,Int.reduceEq,Int.reduceNe,Int.reduceNeg,Int.reduceAdd,Int.reduceSub,Pr.row,Eff.cellsD,dav]
      refine ADef.intro (n := 17) Tryd.func84 rfl rfl (by kernel_rfl) rfl (by kernel_rfl) ?_
      simp only [go_sem,Nat.reduceAdd,Nat.reduceSub,Nat.reduceMul,Nat.reduceEqDiff,Nat.reduceLeDiff,Nat.reduceLT,↓reduceIte,Int.reduceToNat,reduceCtorEq,Int.reduceLT,Int.reduceLE,Int.reduceGT,Int.reduceGE,Int.reduceEq,Int.reduceNe,Int.reduceNeg,Int.reduceAdd,Int.reduceSub,exec_res]
      exact finN ⟨p.rg, p.pos, [], ⟨p.tk, p.tn, ⟨0, 0⟩⟩, x⟩ _ (by rw [exec, he]; rfl) rfl
    | cons b l =>
      simp only [go_sem,Nat.reduceAdd,Nat.reduceSub,Nat.reduceMul,Nat.reduceEqDiff,Nat.reduceLeDiff,Nat.reduceLT,↓reduceIte,Int.reduceToNat,reduceCtorEq,Int.reduceLT,Int.reduceLE,Int.reduceGT,Int.reduceGE,Int.reduceEq,Int.reduceNe,Int.reduceNeg,Int.reduceAdd,Int.reduceSub,Pr.row,Eff.cellsD,dav]
      refine ADef.intro (n := 17) Tryd.func84 rfl rfl (by kernel_rfl) rfl (by kernel_rfl) ?_
      simp only [go_sem,Nat.reduceAdd,Nat.reduceSub,Nat.reduceMul,Nat.reduceEqDiff,Nat.reduceLeDiff,Nat.reduceLT,↓reduceIte,Int.reduceToNat,reduceCtorEq,Int.reduceLT,Int.reduceLE,Int.reduceGT,Int.reduceGE,Int.reduceEq,Int.reduceNe,Int.reduceNeg,Int.reduceAdd,Int.reduceSub,exec_res]
      exact fin ⟨p.rg, p.pos, b :: l, ⟨p.tk, p.tn, ⟨0, 0⟩⟩, x⟩ _ (by rw [exec, he]; rfl)
end Go.Proofs.YtojfnagfafoiaaaDoor

set_option maxRecDepth 100000
set_option linter.unusedVariables false
set_option linter.unusedSimpArgs false
namespace Go.Proofs.YtojfnagfafoiaaaDoor
open Go.AM
theorem bOr_add {k : Nat} (hk : k ≤ 8) {v c : Int} (h0 : 0 ≤ c) (h1 : c < 2 ^ k) : bOr .i64 (iw .i64 (v * 2 ^ k)) c = iw .i64 (v * 2 ^ k + c) := by
  have hp : (0 : Int) < 2 ^ k := Int.pow_pos (by decide)
  have h256 : (2 : Int) ^ k ≤ 256 := by
    have : k = 0 ∨ k = 1 ∨ k = 2 ∨ k = 3 ∨ k = 4 ∨ k = 5 ∨ k = 6 ∨ k = 7 ∨ k = 8 := by omega
    rcases this with rfl | rfl | rfl | rfl | rfl | rfl | rfl | rfl | rfl <;> decide
  unfold bOr
  show iw .i64 (((BitVec.ofInt 64 (iw .i64 (v * 2 ^ k)) ||| BitVec.ofInt 64 c).toNat : Nat) : Int) = _
  rw [BitVec.toNat_or]
  have e1 := toNat_ofInt (iw .i64 (v * 2 ^ k))
  have e2 := toNat_ofInt c
  have e3 : iw .i64 (v * 2 ^ k) % 18446744073709551616 = (v * 2 ^ k) % 18446744073709551616 := by rw [iwi64]; omega
  rw [e3] at e1
  generalize hA : (BitVec.ofInt 64 (iw .i64 (v * 2 ^ k))).toNat = A at *
  generalize hC : (BitVec.ofInt 64 c).toNat = C at *
  have hc : (C : Int) = c := by rw [e2]; omega
  have hdvd : (2 ^ k : Nat) ∣ A := by
    have h2 : ((2 ^ k : Nat) : Int) ∣ (A : Int) := by
      rw [e1]
      have hd : ((2 : Int) ^ k) ∣ 18446744073709551616 := by
        have : (18446744073709551616 : Int) = 2 ^ k * 2 ^ (64 - k) := by rw [← Int.pow_add]; rw [show k + (64 - k) = 64 by omega]; rfl
        exact ⟨_, this⟩
      have : ((2 ^ k : Nat) : Int) = 2 ^ k := by simp
      rw [this, Int.emod_def]
      exact Int.dvd_sub (Int.dvd_mul_left _ _) (Int.dvd_mul_of_dvd_left hd)
    exact Int.natCast_dvd_natCast.1 h2
  obtain ⟨q, rfl⟩ := hdvd
  have hlt : C < 2 ^ k := by
    have : (C : Int) < ((2 ^ k : Nat) : Int) := by rw [hc]; simpa using h1
    exact Int.ofNat_lt.1 this
  rw [← Nat.two_pow_add_eq_or_of_lt hlt]
  refine iw_congr ?_
  rw [Int.natCast_add, hc, Int.add_emod, e1, Int.emod_emod_of_dvd _ (Int.dvd_refl _), ← Int.add_emod]
theorem bOr128 (v : Int) {c : Int} (h0 : 0 ≤ c) (h1 : c < 128) : bOr .i64 (iw .i64 (v * 128)) c = iw .i64 (v * 128 + c) := bOr_add (k := 7) (by decide) h0 h1
theorem bOr256 (v : Int) {c : Int} (h0 : 0 ≤ c) (h1 : c < 256) : bOr .i64 (iw .i64 (v * 256)) c = iw .i64 (v * 256 + c) := bOr_add (k := 8) (by decide) h0 h1
theorem scan_at (wide : Bool) (b : List UInt8) (n : Nat) : ∀ (m i : Nat), scan wide b n m i = 0 → ∀ j, i ≤ j → j < i + m → ∃ c, b[j]? = some c ∧ (c.toNat : Int) < 128
  | 0, i, _, j, h1, h2 => by omega
  | m + 1, i, h, j, h1, h2 => by
    rw [scan] at h
    split at h
    · cases h
    · rename_i c hc
      split at h
      · cases h
      · rename_i hno
        rcases Nat.eq_or_lt_of_le h1 with rfl | h3
        · exact ⟨c, hc, by omega⟩
        · exact scan_at wide b n m (i + 1) h j h3 (by omega)
theorem fits_imm {f : Int} {bs : List UInt8} (hl : bs.length = bytesOf f) (hb : ∀ c ∈ bs, (c.toNat : Int) < 128) : fits f (immL bs (imm0 f bs)) = true := by
  unfold fits
  by_cases h3 : f = 3
  · rw [if_pos h3]
  rw [if_neg h3]
  by_cases h8 : f = 8
  · rw [if_pos h8]
    subst h8
    match bs, hl with
    | [c], _ =>
      have hc := hb c (by simp)
      have h0 := u8_ge c
      have : immL [c] (imm0 8 [c]) = c.toNat := by simp only [immL, imm0, List.foldr]; exact bOr0 c
      rw [this]
      simp; omega
  rw [if_neg h8]
  have hcase : bytesOf f = 0 ∨ bytesOf f = 1 ∨ bytesOf f = 2 := by unfold bytesOf; rw [if_neg h3]; split <;> (try split) <;> simp
  rcases hcase with hc | hc | hc
  · rw [hc] at hl ⊢
    rw [List.length_eq_zero_iff.1 hl]
    simp [immL, imm0]
  · rw [hc] at hl ⊢
    match bs, hl with
    | [c], _ =>
      have hc := hb c (by simp)
      have h0 := u8_ge c
      have e : immL [c] (imm0 f [c]) = bOr .i64 (iw .i64 (imm0 f [c] * 128)) (c.toNat : Int) := rfl
      rw [e, bOr128 _ h0 hc]
      by_cases h64 : 64 ≤ (c.toNat : Int)
      · have : imm0 f [c] = -1 := by simp [imm0, topB, h8, h64]
        rw [this, iw64 (by omega) (by omega)]
        simp; omega
      · have : imm0 f [c] = 0 := by simp [imm0, topB, h64]
        rw [this, iw64 (by omega) (by omega)]
        simp; omega
  · rw [hc] at hl ⊢
    match bs, hl with
    | [c, d], _ =>
      have hc := hb c (by simp)
      have hd := hb d (by simp)
      have h0 := u8_ge c
      have h1 := u8_ge d
      have e : immL [c, d] (imm0 f [c, d]) = bOr .i64 (iw .i64 (bOr .i64 (iw .i64 (imm0 f [c, d] * 128)) (d.toNat : Int) * 128)) (c.toNat : Int) := rfl
      rw [e, bOr128 _ h1 hd, bOr128 _ h0 hc]
      by_cases h64 : 64 ≤ (d.toNat : Int)
      · have : imm0 f [c, d] = -1 := by simp [imm0, topB, h8, h64]
        rw [this, iw64 (n := -1 * 128 + (d.toNat : Int)) (by omega) (by omega), iw64 (by omega) (by omega)]
        simp; omega
      · have : imm0 f [c, d] = 0 := by simp [imm0, topB, h64]
        rw [this, iw64 (n := 0 * 128 + (d.toNat : Int)) (by omega) (by omega), iw64 (by omega) (by omega)]
        simp; omega
theorem decB_ok {b : List UInt8} {op a b' : Int} {k : Nat} (ho : isOp op = true) (ha : 0 ≤ a ∧ a ≤ 7) (hb : 0 ≤ b' ∧ b' ≤ 7) (hA : hasA (kform op) = true ∨ a = 0) (hB : hasB (kform op) = true ∨ b' = 0) (hk : flen (kform op) = bytesOf (kform op) + k) (hkl : k ≤ b.length)
    (he : (decB b op a b' k).e = 0) : (decB b op a b' k).x.ok ∧ (decB b op a b' k).n = flen (kform op) ∧ (decB b op a b' k).x.op = op := by
  unfold decB at he ⊢
  split
  · rename_i hs
    refine ⟨⟨ho, ha.1, ha.2, hb.1, hb.2, hA, hB, ?_⟩, rfl, rfl⟩
    rw [hk, Nat.add_sub_cancel] at hs
    have hlen := scan_len _ _ _ _ _ hs hkl
    rw [hk]
    refine fits_imm (by simp; omega) ?_
    intro c hc
    obtain ⟨i, hi⟩ := List.getElem?_of_mem hc
    have hil := (List.getElem?_eq_some_iff.1 hi).1
    simp at hil
    rw [List.getElem?_drop, List.getElem?_take, if_pos (by omega)] at hi
    obtain ⟨c', h1, h2⟩ := scan_at _ _ _ _ _ hs (k + i) (by omega) (by omega)
    rw [hi] at h1
    injection h1 with h1
    rw [h1]; exact h2
  · rename_i hs
    rw [if_neg hs] at he
    exact absurd he hs
theorem dec_ok {b : List UInt8} (he : (dec b).e = 0) : (dec b).x.ok := by
  rcases b with _ | ⟨b0, rest⟩
  · cases he
  rw [dec_cons] at he ⊢
  by_cases ho : isOp ((b0.toNat : Int) - 128) = true
  · rw [if_pos ho] at he ⊢
    have hsp := flen_split (kform ((b0.toNat : Int) - 128))
    by_cases hA : hasA (kform ((b0.toNat : Int) - 128)) = true
    · rw [if_pos hA] at he ⊢ hsp
      rcases rest with _ | ⟨b1, rest⟩
      · cases he
      · simp only at he ⊢
        have h0 := u8_ge b1
        by_cases hB : hasB (kform ((b0.toNat : Int) - 128)) = true
        · rw [if_pos hB] at he ⊢
          by_cases h64 : 64 ≤ (b1.toNat : Int)
          · rw [if_pos h64] at he; cases he
          · rw [if_neg h64] at he ⊢
            have e1 : (b1.toNat : Int).tdiv 8 = (b1.toNat : Int) / 8 := Int.tdiv_eq_ediv_of_nonneg h0
            have e2 : (b1.toNat : Int).tmod 8 = (b1.toNat : Int) % 8 := Int.tmod_eq_emod_of_nonneg h0
            exact (decB_ok ho (by omega) (by omega) (.inl hA) (.inl hB) hsp (by simp) he).1
        · rw [if_neg hB] at he ⊢
          by_cases h64 : 8 ≤ (b1.toNat : Int)
          · rw [if_pos h64] at he; cases he
          · rw [if_neg h64] at he ⊢
            exact (decB_ok ho (by omega) (by omega) (.inl hA) (.inr rfl) hsp (by simp) he).1
    · rw [if_neg hA] at he ⊢ hsp
      exact (decB_ok ho (by omega) (by omega) (.inr rfl) (.inr rfl) hsp (by simp) he).1
  · rw [if_neg ho] at he; cases he
theorem dec_e (b : List UInt8) : (dec b).e = 0 ∨ (dec b).e = 20 ∨ (dec b).e = 21 := by
  have hB : ∀ op a b' k, (decB b op a b' k).e = 0 ∨ (decB b op a b' k).e = 20 ∨ (decB b op a b' k).e = 21 := fun op a b' k => by
    unfold decB
    split
    · exact .inl rfl
    · exact scan_vals _ _ _ _ _
  rcases b with _ | ⟨b0, rest⟩
  · exact .inr (.inr rfl)
  rw [dec_cons]
  split
  · split
    · rcases rest with _ | ⟨b1, rest⟩
      · exact .inr (.inr rfl)
      · simp only
        split <;> split <;> first | exact .inr (.inl rfl) | exact hB _ _ _ _
    · exact hB _ _ _ _
  · exact .inr (.inl rfl)
def x0 : Ins := ⟨0, 0, 0, 0⟩
def step (s : Sp) (r : Rg) : Eff :=
  if (dec (s.fet r.pc 12 0)).e = 0 then exec (dec (s.fet r.pc 12 0)).x s r
  else if (dec (s.fet r.pc 12 0)).e = 21 then ⟨r, 0, [], ⟨3, 0, s.flt r.pc 4 ((s.fet r.pc 12 0).length + 1) 0⟩, x0⟩
  else ⟨r, 0, [], ⟨4, 0, ⟨0, 0⟩⟩, x0⟩
theorem step_c (s : Sp) (hs : s.ok) (r : Rg) (hr : r.wf) :
    ACalls Tryd.prog 53 [s.av, r.av] [] (fun o H => o = .ret (step s r).av ∧ H = []) := by
  refine ACalls.up ?_
  refine ACalls.intro (cs := []) (n := 49) Tryd.func53 rfl rfl rfl (by kernel_rfl) rfl ?_
  generalize hpost : (fun (o : Out) (H : Heap) => o = Out.ret (step s r).av ∧ H = []) = post
  have finN : ∀ (e : Eff) H, e = step s r → e.data = [] → Up 0 post (.ret (.agg (e.cellsD dnil))) H := fun e H h hd => .le (.ret (.agg (leL_dnil e))) (LeH.refl _) (finv (v := .agg (e.cellsD (dby []))) (by simp [Eff.cellsD, AV.lt, ltL]) (by rw [← hpost, ← h]; exact ⟨by rw [Eff.av, Eff.cells, hd], rfl⟩) _)
  simp only [go_sem,Nat.reduceAdd,Nat.reduceSub,Nat.reduceMul,Nat.reduceEqDiff,Nat.reduceLeDiff,Nat.reduceLT,↓reduceIte,Int.reduceToNat,reduceCtorEq,Int.reduceLT,Int.reduceLE,Int.reduceGT,Int.reduceGE,Int.reduceEq,Int.reduceNe,Int.reduceNeg,Int.reduceAdd,Int.reduceSub,Sp.av,Rg.av,Rg.cells]
  refine rK_use (enters_of Tryd.func88 rfl (by decide)) (ACalls.pure_use (fetch_c s hs r.pc 12 (by decide)) rfl (by simp [AV.lt, ltL])) ?_
  have hbl := s.fet_len r.pc 12 0
  simp only [go_sem,Nat.reduceAdd,Nat.reduceSub,Nat.reduceMul,Nat.reduceEqDiff,Nat.reduceLeDiff,Nat.reduceLT,↓reduceIte,Int.reduceToNat,reduceCtorEq,Int.reduceLT,Int.reduceLE,Int.reduceGT,Int.reduceGE,Int.reduceEq,Int.reduceNe,Int.reduceNeg,Int.reduceAdd,Int.reduceSub]
  refine rK_use (enters_of Tryd.func87 rfl (by decide)) (ACalls.pure_use (mustB_c ((s.fet r.pc 12 0).map rb) (rb_lt0 _)) rfl (by simp [AV.lt])) ?_
  generalize hb : s.fet r.pc 12 0 = b at *
  simp only [go_sem,Nat.reduceAdd,Nat.reduceSub,Nat.reduceMul,Nat.reduceEqDiff,Nat.reduceLeDiff,Nat.reduceLT,↓reduceIte,Int.reduceToNat,reduceCtorEq,Int.reduceLT,Int.reduceLE,Int.reduceGT,Int.reduceGE,Int.reduceEq,Int.reduceNe,Int.reduceNeg,Int.reduceAdd,Int.reduceSub]
  refine rK_use (enters_of Tryd.func26 rfl (by decide)) (ACalls.pure_use (decode_c b (by omega)) rfl (by simp [Dec.av, AV.lt, ltL, Ins.av, Ins.cells])) ?_
  rcases dec_e b with he | he | he
  · simp only [go_sem,Nat.reduceAdd,Nat.reduceSub,Nat.reduceMul,Nat.reduceEqDiff,Nat.reduceLeDiff,Nat.reduceLT,↓reduceIte,Int.reduceToNat,reduceCtorEq,Int.reduceLT,Int.reduceLE,Int.reduceGT,Int.reduceGE,Int.reduceEq,Int.reduceNe,Int.reduceNeg,Int.reduceAdd,Int.reduceSub,Dec.av,he,Ins.av,Ins.cells]
    refine rK_use (enters_of Tryd.func52 rfl (by decide)) (ACalls.pure_use (exec_c (dec b).x (dec_ok he) s hs r hr) rfl (Eff.av_lt _ _)) ?_
    simp only [go_sem,Nat.reduceAdd,Nat.reduceSub,Nat.reduceMul,Nat.reduceEqDiff,Nat.reduceLeDiff,Nat.reduceLT,↓reduceIte,Int.reduceToNat,reduceCtorEq,Int.reduceLT,Int.reduceLE,Int.reduceGT,Int.reduceGE,Int.reduceEq,Int.reduceNe,Int.reduceNeg,Int.reduceAdd,Int.reduceSub,Eff.av,Eff.cells,Eff.cellsD]
    refine finv (v := (exec (dec b).x s r).av) (Eff.av_lt _ 0) ?_ _
    rw [← hpost]
    exact ⟨by rw [step, hb, if_pos he], rfl⟩
  · simp only [go_sem,Nat.reduceAdd,Nat.reduceSub,Nat.reduceMul,Nat.reduceEqDiff,Nat.reduceLeDiff,Nat.reduceLT,↓reduceIte,Int.reduceToNat,reduceCtorEq,Int.reduceLT,Int.reduceLE,Int.reduceGT,Int.reduceGE,Int.reduceEq,Int.reduceNe,Int.reduceNeg,Int.reduceAdd,Int.reduceSub,Dec.av,he,Ins.av,Ins.cells]
    exact finN ⟨r, 0, [], ⟨4, 0, ⟨0, 0⟩⟩, x0⟩ _ (by rw [step, hb, if_neg (by rw [he]; decide), if_neg (by rw [he]; decide)]) rfl
  · have e1 : iw .i64 ((b.length : Int) + 1) = ((b.length + 1 : Nat) : Int) := by rw [iw64] <;> omega
    simp only [go_sem,Nat.reduceAdd,Nat.reduceSub,Nat.reduceMul,Nat.reduceEqDiff,Nat.reduceLeDiff,Nat.reduceLT,↓reduceIte,Int.reduceToNat,reduceCtorEq,Int.reduceLT,Int.reduceLE,Int.reduceGT,Int.reduceGE,Int.reduceEq,Int.reduceNe,Int.reduceNeg,Int.reduceAdd,Int.reduceSub,Dec.av,he,Ins.av,Ins.cells,List.length_map,e1]
    refine rK_use (enters_of Tryd.func78 rfl (by decide)) (ACalls.pure_use (access_c s hs r.pc 4 (b.length + 1) (by omega) (by simp)) rfl rfl) ?_
    simp only [go_sem,Nat.reduceAdd,Nat.reduceSub,Nat.reduceMul,Nat.reduceEqDiff,Nat.reduceLeDiff,Nat.reduceLT,↓reduceIte,Int.reduceToNat,reduceCtorEq,Int.reduceLT,Int.reduceLE,Int.reduceGT,Int.reduceGE,Int.reduceEq,Int.reduceNe,Int.reduceNeg,Int.reduceAdd,Int.reduceSub]
    refine rK_use (enters_of Tryd.func77 rfl (by decide)) (ACalls.pure_use (mustF_c _) rfl rfl) ?_
    simp only [go_sem,Nat.reduceAdd,Nat.reduceSub,Nat.reduceMul,Nat.reduceEqDiff,Nat.reduceLeDiff,Nat.reduceLT,↓reduceIte,Int.reduceToNat,reduceCtorEq,Int.reduceLT,Int.reduceLE,Int.reduceGT,Int.reduceGE,Int.reduceEq,Int.reduceNe,Int.reduceNeg,Int.reduceAdd,Int.reduceSub,Flt.cells]
    exact finN ⟨r, 0, [], ⟨3, 0, s.flt r.pc 4 (b.length + 1) 0⟩, x0⟩ _ (by rw [step, hb, if_neg (by rw [he]; decide), if_pos he]) rfl
theorem zeroE : LeV (.agg (Eff.cellsD ⟨⟨0, 0, 0, 0, 0, 0, 0, 0, 0⟩, 0, [], ⟨0, 0, ⟨0, 0⟩⟩, x0⟩ dnil)) (Eff.av ⟨⟨0, 0, 0, 0, 0, 0, 0, 0, 0⟩, 0, [], ⟨0, 0, ⟨0, 0⟩⟩, x0⟩) := .agg (leL_dnil _)
def eff0 : Eff := ⟨⟨0, 0, 0, 0, 0, 0, 0, 0, 0⟩, 0, [], ⟨0, 0, ⟨0, 0⟩⟩, x0⟩
theorem Exec_c (x : Ins) (hx : x.ok) (s : Sp) (hs : s.ok) (r : Rg) (hr : r.wf) :
    ACalls Tryd.prog 17 [x.av, s.av, r.av] [] (fun o H => o = .ret (.tuple [(exec x s r).av, iv 0]) ∧ H = []) := by
  refine ACalls.up ?_
  refine ACalls.intro (cs := []) (n := 26) Tryd.func17 rfl rfl rfl (by kernel_rfl) rfl ?_
  generalize hpost : (fun (o : Out) (H : Heap) => o = Out.ret (.tuple [(exec x s r).av, iv 0]) ∧ H = []) = post
  simp only [go_sem,Nat.reduceAdd,Nat.reduceSub,Nat.reduceMul,Nat.reduceEqDiff,Nat.reduceLeDiff,Nat.reduceLT,↓reduceIte,Int.reduceToNat,reduceCtorEq,Int.reduceLT,Int.reduceLE,Int.reduceGT,Int.reduceGE,Int.reduceEq,Int.reduceNe,Int.reduceNeg,Int.reduceAdd,Int.reduceSub,Sp.av,Rg.av,Rg.cells,Ins.av,Ins.cells]
  refine rK_use (enters_of Tryd.func50 rfl (by decide)) (ACalls.pure_use (mcheck_c s) rfl rfl) ?_
  rw [Sp.chk_ok hs]
  simp only [go_sem,Nat.reduceAdd,Nat.reduceSub,Nat.reduceMul,Nat.reduceEqDiff,Nat.reduceLeDiff,Nat.reduceLT,↓reduceIte,Int.reduceToNat,reduceCtorEq,Int.reduceLT,Int.reduceLE,Int.reduceGT,Int.reduceGE,Int.reduceEq,Int.reduceNe,Int.reduceNeg,Int.reduceAdd,Int.reduceSub]
  refine rK_use (enters_of Tryd.func51 rfl (by decide)) (ACalls.pure_use (icheck_c x) rfl rfl) ?_
  rw [Ins.chk, if_pos hx]
  simp only [go_sem,Nat.reduceAdd,Nat.reduceSub,Nat.reduceMul,Nat.reduceEqDiff,Nat.reduceLeDiff,Nat.reduceLT,↓reduceIte,Int.reduceToNat,reduceCtorEq,Int.reduceLT,Int.reduceLE,Int.reduceGT,Int.reduceGE,Int.reduceEq,Int.reduceNe,Int.reduceNeg,Int.reduceAdd,Int.reduceSub]
  refine rK_use (enters_of Tryd.func52 rfl (by decide)) (ACalls.pure_use (exec_c x hx s hs r hr) rfl (Eff.av_lt _ _)) ?_
  simp only [go_sem,Nat.reduceAdd,Nat.reduceSub,Nat.reduceMul,Nat.reduceEqDiff,Nat.reduceLeDiff,Nat.reduceLT,↓reduceIte,Int.reduceToNat,reduceCtorEq,Int.reduceLT,Int.reduceLE,Int.reduceGT,Int.reduceGE,Int.reduceEq,Int.reduceNe,Int.reduceNeg,Int.reduceAdd,Int.reduceSub,Eff.av,Eff.cells,Eff.cellsD]
  refine finv (v := .tuple [(exec x s r).av, iv 0]) (by simp [AV.lt, ltL, Eff.av_lt]) ?_ _
  rw [← hpost]
  exact ⟨rfl, rfl⟩
theorem Exec_s (x : Ins) (s : Sp) (hs : ¬ s.ok) (r : Rg) :
    ACalls Tryd.prog 17 [x.av, s.av, r.av] [] (fun o H => o = .ret (.tuple [eff0.av, iv 30]) ∧ H = []) := by
  refine ACalls.up ?_
  refine ACalls.intro (cs := []) (n := 26) Tryd.func17 rfl rfl rfl (by kernel_rfl) rfl ?_
  generalize hpost : (fun (o : Out) (H : Heap) => o = Out.ret (.tuple [eff0.av, iv 30]) ∧ H = []) = post
  simp only [go_sem,Nat.reduceAdd,Nat.reduceSub,Nat.reduceMul,Nat.reduceEqDiff,Nat.reduceLeDiff,Nat.reduceLT,↓reduceIte,Int.reduceToNat,reduceCtorEq,Int.reduceLT,Int.reduceLE,Int.reduceGT,Int.reduceGE,Int.reduceEq,Int.reduceNe,Int.reduceNeg,Int.reduceAdd,Int.reduceSub,Sp.av,Rg.av,Rg.cells,Ins.av,Ins.cells]
  refine rK_use (enters_of Tryd.func50 rfl (by decide)) (ACalls.pure_use (mcheck_c s) rfl rfl) ?_
  rw [Sp.chk, if_neg hs]
  simp only [go_sem,Nat.reduceAdd,Nat.reduceSub,Nat.reduceMul,Nat.reduceEqDiff,Nat.reduceLeDiff,Nat.reduceLT,↓reduceIte,Int.reduceToNat,reduceCtorEq,Int.reduceLT,Int.reduceLE,Int.reduceGT,Int.reduceGE,Int.reduceEq,Int.reduceNe,Int.reduceNeg,Int.reduceAdd,Int.reduceSub]
  refine .le (.ret (.tuple (.cons zeroE (.cons (.refl _) .nil)))) (LeH.refl _) (finv (v := .tuple [eff0.av, iv 30]) (by simp [AV.lt, ltL, Eff.av_lt]) ?_ _)
  rw [← hpost]
  exact ⟨rfl, rfl⟩
theorem Exec_n (x : Ins) (hx : ¬ x.ok) (s : Sp) (hs : s.ok) (r : Rg) :
    ACalls Tryd.prog 17 [x.av, s.av, r.av] [] (fun o H => o = .ret (.tuple [eff0.av, iv 20]) ∧ H = []) := by
  refine ACalls.up ?_
  refine ACalls.intro (cs := []) (n := 26) Tryd.func17 rfl rfl rfl (by kernel_rfl) rfl ?_
  generalize hpost : (fun (o : Out) (H : Heap) => o = Out.ret (.tuple [eff0.av, iv 20]) ∧ H = []) = post
  simp only [go_sem,Nat.reduceAdd,Nat.reduceSub,Nat.reduceMul,Nat.reduceEqDiff,Nat.reduceLeDiff,Nat.reduceLT,↓reduceIte,Int.reduceToNat,reduceCtorEq,Int.reduceLT,Int.reduceLE,Int.reduceGT,Int.reduceGE,Int.reduceEq,Int.reduceNe,Int.reduceNeg,Int.reduceAdd,Int.reduceSub,Sp.av,Rg.av,Rg.cells,Ins.av,Ins.cells]
  refine rK_use (enters_of Tryd.func50 rfl (by decide)) (ACalls.pure_use (mcheck_c s) rfl rfl) ?_
  rw [Sp.chk_ok hs]
  simp only [go_sem,Nat.reduceAdd,Nat.reduceSub,Nat.reduceMul,Nat.reduceEqDiff,Nat.reduceLeDiff,Nat.reduceLT,↓reduceIte,Int.reduceToNat,reduceCtorEq,Int.reduceLT,Int.reduceLE,Int.reduceGT,Int.reduceGE,Int.reduceEq,Int.reduceNe,Int.reduceNeg,Int.reduceAdd,Int.reduceSub]
  refine rK_use (enters_of Tryd.func51 rfl (by decide)) (ACalls.pure_use (icheck_c x) rfl rfl) ?_
  rw [Ins.chk, if_neg hx]
  simp only [go_sem,Nat.reduceAdd,Nat.reduceSub,Nat.reduceMul,Nat.reduceEqDiff,Nat.reduceLeDiff,Nat.reduceLT,↓reduceIte,Int.reduceToNat,reduceCtorEq,Int.reduceLT,Int.reduceLE,Int.reduceGT,Int.reduceGE,Int.reduceEq,Int.reduceNe,Int.reduceNeg,Int.reduceAdd,Int.reduceSub]
  refine .le (.ret (.tuple (.cons zeroE (.cons (.refl _) .nil)))) (LeH.refl _) (finv (v := .tuple [eff0.av, iv 20]) (by simp [AV.lt, ltL, Eff.av_lt]) ?_ _)
  rw [← hpost]
  exact ⟨rfl, rfl⟩
theorem Step_c (s : Sp) (hs : s.ok) (r : Rg) (hr : r.wf) :
    ACalls Tryd.prog 18 [s.av, r.av] [] (fun o H => o = .ret (.tuple [(step s r).av, iv 0]) ∧ H = []) := by
  refine ACalls.up ?_
  refine ACalls.intro (cs := []) (n := 16) Tryd.func18 rfl rfl rfl (by kernel_rfl) rfl ?_
  generalize hpost : (fun (o : Out) (H : Heap) => o = Out.ret (.tuple [(step s r).av, iv 0]) ∧ H = []) = post
  simp only [go_sem,Nat.reduceAdd,Nat.reduceSub,Nat.reduceMul,Nat.reduceEqDiff,Nat.reduceLeDiff,Nat.reduceLT,↓reduceIte,Int.reduceToNat,reduceCtorEq,Int.reduceLT,Int.reduceLE,Int.reduceGT,Int.reduceGE,Int.reduceEq,Int.reduceNe,Int.reduceNeg,Int.reduceAdd,Int.reduceSub,Sp.av,Rg.av,Rg.cells]
  refine rK_use (enters_of Tryd.func50 rfl (by decide)) (ACalls.pure_use (mcheck_c s) rfl rfl) ?_
  rw [Sp.chk_ok hs]
  simp only [go_sem,Nat.reduceAdd,Nat.reduceSub,Nat.reduceMul,Nat.reduceEqDiff,Nat.reduceLeDiff,Nat.reduceLT,↓reduceIte,Int.reduceToNat,reduceCtorEq,Int.reduceLT,Int.reduceLE,Int.reduceGT,Int.reduceGE,Int.reduceEq,Int.reduceNe,Int.reduceNeg,Int.reduceAdd,Int.reduceSub]
  refine rK_use (enters_of Tryd.func53 rfl (by decide)) (ACalls.pure_use (step_c s hs r hr) rfl (Eff.av_lt _ _)) ?_
  simp only [go_sem,Nat.reduceAdd,Nat.reduceSub,Nat.reduceMul,Nat.reduceEqDiff,Nat.reduceLeDiff,Nat.reduceLT,↓reduceIte,Int.reduceToNat,reduceCtorEq,Int.reduceLT,Int.reduceLE,Int.reduceGT,Int.reduceGE,Int.reduceEq,Int.reduceNe,Int.reduceNeg,Int.reduceAdd,Int.reduceSub,Eff.av,Eff.cells,Eff.cellsD]
  refine finv (v := .tuple [(step s r).av, iv 0]) (by simp [AV.lt, ltL, Eff.av_lt]) ?_ _
  rw [← hpost]
  exact ⟨rfl, rfl⟩
theorem Step_s (s : Sp) (hs : ¬ s.ok) (r : Rg) :
    ACalls Tryd.prog 18 [s.av, r.av] [] (fun o H => o = .ret (.tuple [eff0.av, iv 30]) ∧ H = []) := by
  refine ACalls.up ?_
  refine ACalls.intro (cs := []) (n := 16) Tryd.func18 rfl rfl rfl (by kernel_rfl) rfl ?_
  generalize hpost : (fun (o : Out) (H : Heap) => o = Out.ret (.tuple [eff0.av, iv 30]) ∧ H = []) = post
  simp only [go_sem,Nat.reduceAdd,Nat.reduceSub,Nat.reduceMul,Nat.reduceEqDiff,Nat.reduceLeDiff,Nat.reduceLT,↓reduceIte,Int.reduceToNat,reduceCtorEq,Int.reduceLT,Int.reduceLE,Int.reduceGT,Int.reduceGE,Int.reduceEq,Int.reduceNe,Int.reduceNeg,Int.reduceAdd,Int.reduceSub,Sp.av,Rg.av,Rg.cells]
  refine rK_use (enters_of Tryd.func50 rfl (by decide)) (ACalls.pure_use (mcheck_c s) rfl rfl) ?_
  rw [Sp.chk, if_neg hs]
  simp only [go_sem,Nat.reduceAdd,Nat.reduceSub,Nat.reduceMul,Nat.reduceEqDiff,Nat.reduceLeDiff,Nat.reduceLT,↓reduceIte,Int.reduceToNat,reduceCtorEq,Int.reduceLT,Int.reduceLE,Int.reduceGT,Int.reduceGE,Int.reduceEq,Int.reduceNe,Int.reduceNeg,Int.reduceAdd,Int.reduceSub]
  refine .le (.ret (.tuple (.cons zeroE (.cons (.refl _) .nil)))) (LeH.refl _) (finv (v := .tuple [eff0.av, iv 30]) (by simp [AV.lt, ltL, Eff.av_lt]) ?_ _)
  rw [← hpost]
  exact ⟨rfl, rfl⟩
end Go.Proofs.YtojfnagfafoiaaaDoor
