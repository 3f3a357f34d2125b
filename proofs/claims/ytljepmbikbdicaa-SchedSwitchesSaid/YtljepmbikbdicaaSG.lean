/- Sched: the reference's copy, queue in, queue out. No condition. -/
import Derived.Test.YtljepmbikbdicaaSB
import Derived.Test.YtljepmbikbdicaaKE
import Derived.Test.YtljepmbikbdicaaSC
import Derived.Test.YtljepmbikbdicaaSD
set_option maxRecDepth 100000
set_option linter.unusedVariables false
set_option linter.unusedSimpArgs false
namespace Go.Proofs.Ytljepmbikbdicaa
open Go.AM
theorem Q.rows_fz (l : List Q) (r sz : Nat) (xs : List (List AV)) : (l.map Q.row).map (fun row => row.map (AV.fz r sz xs)) = l.map Q.row := by
  have := bfz_pure (r := r) (sz := sz) (ys := xs) (z := 3) (Q.rows_lt l 0)
  simpa [Blk.fz] using this
theorem T.rows_fz (l : List T) (r sz : Nat) (xs : List (List AV)) : (l.map T.row).map (fun row => row.map (AV.fz r sz xs)) = l.map T.row := by
  have := bfz_pure (r := r) (sz := sz) (ys := xs) (z := 3) (T.rows_lt l 0)
  simpa [Blk.fz] using this
theorem Copy_c (s : S) (h1 : s.cpus.length ≤ 4) (h2 : s.thr.length ≤ 16) (h3 : ∀ q ∈ s.cpus, q.ready.length ≤ 1000) :
    ACalls Try.prog 92 [s.av] [] (fun o H => o = .ret (.agg [.sl 1 0 s.cpus.length none, .sl 0 0 s.thr.length none, iv s.quantum]) ∧ H = [.rows 3 (s.thr.map T.row), .rows 3 (s.cpus.map Q.row)]) := by
  refine ACalls.up ?_
  refine ACalls.intro (cs := []) (n := 49) Try.func92 rfl rfl rfl (by kernel_rfl) rfl ?_
  generalize hpost : (fun (o : Out) (H : Heap) => o = Out.ret (.agg [.sl 1 0 s.cpus.length none, .sl 0 0 s.thr.length none, iv s.quantum]) ∧ _) = post
  have h2' : s.thr.length ≤ 68719476736 := by omega
  simp only [go_sem, Nat.reduceAdd, Nat.reduceSub, Nat.reduceMul, Nat.reduceEqDiff, Nat.reduceLeDiff, Nat.reduceLT, ↓reduceIte, Int.reduceToNat, reduceCtorEq, Int.cast_ofNat_Int, Int.reduceLT, Int.reduceLE, Int.reduceGT, Int.reduceGE, Int.reduceEq, Int.reduceNe, Int.reduceNeg, Int.reduceAdd, Int.reduceSub, Int.le_refl, S.av, List.length_map, and_false, h2']
  refine loop_fam (fun i : Nat => (((Ch.nil.put 1 (.ptr 0 0 0)).put 2 (.ptr 1 0 0)).put 3 (.ptr 2 0 0)).put 4 (iv i))
    (fun i => [.rows 3 [[.view false 3 (s.cpus.map Q.row), .view false 3 (s.thr.map T.row), iv s.quantum]], .rows 3 [[.view true 0 [], .view true 0 [], iv 0]], .rows 3 [[.sl 4 0 i none, .sl 3 0 s.thr.length none, iv s.quantum]], .rows 3 (s.thr.map T.row), .rows 3 ((s.cpus.take i).map Q.row)])
    (fun i => s.cpus.length - i) (fun i => i ≤ s.cpus.length) 0 (by kernel_rfl) (Nat.zero_le _) ?_ ?_
  · exact (Wk.slots (by simp [wkS, Ch.get])).trans ((Wk.leH (.cons (.refl _) (.cons (.refl _) (.cons (.rows 3 (.cons (.cons (.sl0 0 4 0) (LeL.refl _)) .nil)) (LeH.refl _))))).trans (Wk.ghost (.rows 3 [])))
  rintro i hi K hK
  simp only [go_sem, Nat.reduceAdd, Nat.reduceSub, Nat.reduceMul, Nat.reduceEqDiff, Nat.reduceLeDiff, Nat.reduceLT, ↓reduceIte, Int.reduceToNat, reduceCtorEq, Int.cast_ofNat_Int, Int.reduceLT, Int.reduceLE, Int.reduceGT, Int.reduceGE, Int.reduceEq, Int.reduceNe, Int.reduceNeg, Int.reduceAdd, Int.reduceSub, Int.le_refl, List.length_map]
  refine condD_dec (fun hc => ?_) (fun hc => ?_)
  · have hc' : i < s.cpus.length := by omega
    obtain ⟨q, hq⟩ := at_lt hc'
    have hql := h3 q (List.mem_of_getElem? hq)
    have e1 : iw .i64 ((i : Int) + 1) = ((i + 1 : Nat) : Int) := by rw [iw64] <;> omega
    have hq' : q.ready.length ≤ 68719476736 := by omega
    have hi' : i + 1 ≤ 68719476736 := by omega
    simp only [go_sem, Nat.reduceAdd, Nat.reduceSub, Nat.reduceMul, Nat.reduceEqDiff, Nat.reduceLeDiff, Nat.reduceLT, ↓reduceIte, Int.reduceToNat, reduceCtorEq, Int.cast_ofNat_Int, Int.reduceLT, Int.reduceLE, Int.reduceGT, Int.reduceGE, Int.reduceEq, Int.reduceNe, Int.reduceNeg, Int.reduceAdd, Int.reduceSub, Int.le_refl]
    refine draw [.qu 0 2, .rd 0 2, .qu 0 1, .rd 0 1, .qu 0 1, .rd 0 1, .qu 0 1, .rd 0 1, .qu 0 1, .rd 0 1, .qu 0 1, .rd 0 1, .qu 0 1, .rd 0 1, .qu 0 0, .qu 0 0, .qu 0 0, .qu 0 0, .qu 0 0, .qu 0 0, .qu 0 0, .mn 0, .qu 1 1, .mn 1, .mn 2, .qu 3 3, .mn 3] (by kernel_rfl) (by kernel_rfl) ?_
    simp only [go_sem, Nat.reduceAdd, Nat.reduceSub, Nat.reduceMul, Nat.reduceEqDiff, Nat.reduceLeDiff, Nat.reduceLT, ↓reduceIte, Int.reduceToNat, reduceCtorEq, Int.cast_ofNat_Int, Int.reduceLT, Int.reduceLE, Int.reduceGT, Int.reduceGE, Int.reduceEq, Int.reduceNe, Int.reduceNeg, Int.reduceAdd, Int.reduceSub, Int.le_refl, List.length_map, List.getElem?_map, hq, hc, hc', Int.natCast_nonneg, Q.row, e1, hq', hi', and_false, List.length_take]
    refine ⟨by omega, hK (i + 1) _ _ hc' (by omega) ?_⟩
    have e2 : List.take i (List.map Q.row (List.take i s.cpus)) = (s.cpus.take i).map Q.row := by rw [List.take_of_length_le]; simp; omega
    have e3 : (s.cpus.take (i + 1)).map Q.row = (s.cpus.take i).map Q.row ++ [q.row] := by rw [List.take_add_one, hq]; simp
    rw [e2]
    refine (Wk.slots (s' := (((Ch.nil.put 1 (.ptr 0 0 0)).put 2 (.ptr 1 0 0)).put 3 (.ptr 2 0 0)).put 4 (iv ((i + 1 : Nat) : Int))) (by simp [wkS, Ch.get])).trans ((Wk.dead 6).trans ((Wk.fz (r := 5) (sz := 1) (xs := q.ready.map r1) rfl (r1_pure _) ?_ ?_).trans (Wk.pick [0, 1, 2, 3, 7] (by decide) rfl ?_ ?_)))
    · intro b hb
      simp only [List.set_cons_succ, List.set_cons_zero, List.mem_cons, List.not_mem_nil, or_false] at hb
      rcases hb with rfl | rfl | rfl | rfl | rfl | rfl | rfl | rfl
      · simp [Blk.fzOk, fzOkL, AV.fzOk]
      · simp [Blk.fzOk, fzOkL, AV.fzOk]
      · simp [Blk.fzOk, fzOkL, AV.fzOk]
      · exact bfzOk_pure (T.rows_lt _ 0)
      · trivial
      · trivial
      · trivial
      · intro row hr
        rcases List.mem_append.1 hr with hr | hr
        · exact fzOkL_pure (Q.rows_lt _ 0 row hr)
        · simp only [List.mem_singleton] at hr
          subst hr
          simp [fzOkL, AV.fzOk]
    · simp [chOk, AV.fzOk]
    · have e4 : (q.ready.map r1).take q.ready.length = q.ready.map r1 := List.take_of_length_le (by simp)
      simp only [List.set_cons_succ, List.set_cons_zero, List.map_cons, List.map_nil, List.length_cons, List.length_nil, List.getElem?_cons_zero, List.getElem?_cons_succ, bfz_T, bfz_Q, bren_T, bren_Q, e3]
      simp [-List.map_map, -List.map_inj_left, Blk.ren, Blk.fz, AV.ren, AV.fz, Q.row, Q.rows_fz, Q.rows_ren, pi, e4]
    · simp [wkP, Ch.get, Ch.fz, AV.fz, AV.ren, pi]
  · obtain rfl : i = s.cpus.length := by omega
    simp only [go_sem, Nat.reduceAdd, Nat.reduceSub, Nat.reduceMul, Nat.reduceEqDiff, Nat.reduceLeDiff, Nat.reduceLT, ↓reduceIte, Int.reduceToNat, reduceCtorEq, Int.cast_ofNat_Int, Int.reduceLT, Int.reduceLE, Int.reduceGT, Int.reduceGE, Int.reduceEq, Int.reduceNe, Int.reduceNeg, Int.reduceAdd, Int.reduceSub, Int.le_refl]
    subst hpost
    exact .pick [3, 4] (o' := .ret (.agg [.sl 1 0 s.cpus.length none, .sl 0 0 s.thr.length none, iv s.quantum])) (by decide) rfl (H' := [.rows 3 (s.thr.map T.row), .rows 3 (s.cpus.map Q.row)]) (by simp [bren_T, bren_Q]) (by simp [Out.ren, AV.ren, renL, pi]) (.done ⟨rfl, rfl⟩)
/-- In front of the first one that p holds of. -/
def insP (p : Int → Bool) (x : Int) : List Int → List Int
  | [] => [x]
  | y :: l => if p y = true then x :: y :: l else y :: insP p x l
theorem idxF_succ (p : Int → Bool) : ∀ (l : List Int) (i : Int), 0 ≤ i → idxF p l (i + 1) = if idxF p l i < 0 then -1 else idxF p l i + 1
  | [], i, _ => by simp [idxF]
  | y :: l, i, hi => by
    by_cases h : p y = true
    · simp [idxF, h, show ¬ i < 0 by omega]
    · have e : idxF p (y :: l) i = idxF p l (i + 1) := by simp [idxF, h]
      have e' : idxF p (y :: l) (i + 1) = idxF p l (i + 1 + 1) := by simp [idxF, h]
      rw [e, e']
      exact idxF_succ p l (i + 1) (by omega)
theorem insP_eq (p : Int → Bool) (x : Int) : ∀ (l : List Int), ins l (idxF p l 0) x = insP p x l
  | [] => by simp [ins, idxF, insP]
  | y :: l => by
    have ih := insP_eq p x l
    simp only [idxF, insP]
    by_cases h : p y = true
    · rw [if_pos h, if_pos h]; simp [ins]
    · rw [if_neg h, if_neg h, ← ih, idxF_succ p l 0 (by omega)]
      unfold ins
      by_cases h2 : idxF p l 0 < 0
      · rw [if_pos h2, if_pos h2, if_pos (by decide)]; rfl
      · rw [if_neg h2, if_neg h2, if_neg (by omega)]
        obtain ⟨m, hm⟩ : ∃ m : Nat, idxF p l 0 = m := ⟨(idxF p l 0).toNat, by omega⟩
        rw [hm, show ((m : Int) + 1).toNat = m + 1 by omega, Int.toNat_natCast]
        rfl
/-- Into the queue of its processor, but no other state. -/
def S.enq (s : S) (i : Nat) (front : Bool) : S := match s.thr[i]? with
  | none => s
  | some t => match s.cpus[t.cpu.toNat]? with
    | none => s
    | some q => s.setQ t.cpu.toNat { q with ready := insP (s.below t.pri front) i q.ready }
/-- Out of the queue of its processor. -/
def S.deq (s : S) (i : Nat) : S := match s.thr[i]? with
  | none => s
  | some t => match s.cpus[t.cpu.toNat]? with
    | none => s
    | some q => s.setQ t.cpu.toNat { q with ready := q.ready.filter (fun x : Int => decide (x ≠ i)) }
/-- A queue's new list, at the end. -/
theorem newReady {s : S} {c : Nat} {q : Q} {l : List Int} {m r : Nat} {post : CQ} {R : Heap} (hq : s.cpus[c]? = some q) (hm : m = 3) (hr : (s.heap R)[r]? = some (.rows 1 (l.map r1))) (h3 : 3 ≤ r) (hp : post (.ret (.tuple [])) ((s.setQ c { q with ready := l }).heap [])) (hR : ∀ b ∈ R, b.lt 0) :
    Up m post (.ret (.tuple [])) (.rows 3 [[.sl 1 0 s.cpus.length none, .sl 2 0 s.thr.length none, iv s.quantum]] :: .rows 3 ((s.cpus.map Q.row).set c [iv q.run, iv q.left, .sl r 0 l.length none]) :: .rows 3 (s.thr.map T.row) :: R) := by
  subst hm
  obtain ⟨r, rfl⟩ : ∃ k, r = k + 3 := ⟨r - 3, by omega⟩
  have hr' : R[r]? = some (.rows 1 (l.map r1)) := by simpa [S.heap] using hr
  have hlt := (List.getElem?_eq_some_iff.1 hr').1
  have hset : (List.map Q.row s.cpus).set c [iv q.run, iv q.left, .view false 1 (l.map r1)] = (s.cpus.set c { q with ready := l }).map Q.row := by rw [List.map_set]; rfl
  have hfz : ((List.map Q.row s.cpus).set c [iv q.run, iv q.left, .sl (r + 3) 0 l.length none]).map (fun row => row.map (AV.fz (r + 3) 1 (l.map r1))) = (s.cpus.set c { q with ready := l }).map Q.row := by
    rw [List.map_set, Q.rows_fz, ← hset]
    have e : (l.map r1).take l.length = l.map r1 := List.take_of_length_le (by simp)
    simp [AV.fz, e]
  refine .fz (r + 3) 1 (l.map r1) (by simpa using hr') (r1_pure _) (by simp [Out.fzOk, AV.fzOk, fzOkL]) ?_ ?_
  · intro b hb
    simp only [List.set_cons_succ, List.mem_cons] at hb
    rcases hb with rfl | rfl | rfl | hb
    · simp [Blk.fzOk, fzOkL, AV.fzOk]
    · intro row hrow
      rcases List.mem_or_eq_of_mem_set hrow with h | rfl
      · exact fzOkL_pure (Q.rows_lt _ 0 row h)
      · simp [fzOkL, AV.fzOk]
    · exact bfzOk_pure (T.rows_lt _ 0)
    · rcases List.mem_or_eq_of_mem_set hb with h | rfl
      · exact bok0 (hR b h)
      · trivial
  · simp only [List.set_cons_succ, List.map_cons, bfz_T]
    simp only [Blk.fz, hfz, List.map_cons, List.map_nil, AV.fz]
    rw [if_neg (by omega), if_neg (by omega)]
    have hH : List.take 3 (Blk.rows 3 [[AV.sl 1 0 s.cpus.length none, AV.sl 2 0 s.thr.length none, iv s.quantum]] :: Blk.rows 3 ((s.cpus.set c { q with ready := l }).map Q.row) :: Blk.rows 3 (s.thr.map T.row) :: (R.set r .dead).map (Blk.fz (r + 3) 1 (l.map r1))) = (s.setQ c { q with ready := l }).heap [] := by
      simp [S.heap, S.setQ]
    refine .gc 3 (Nat.le_refl _) (by simp) (by simp [Out.fz, AV.fz, fzL, Out.lt, AV.lt, ltL]) ?_ (.done ?_)
    · rw [hH]; exact S.heap_lt _
    · rw [hH]; exact hp
theorem S.heap_ltR (s : S) {R : Heap} (hR : ∀ b ∈ R, b.lt 0) {m : Nat} (hm : 3 ≤ m) : ∀ b ∈ s.heap R, b.lt m := by
  intro b hb
  simp only [S.heap, List.mem_cons] at hb
  rcases hb with rfl | rfl | rfl | hb
  · simp [Blk.lt, ltL, AV.lt]; omega
  · exact Q.rows_lt _ _
  · exact T.rows_lt _ _
  · exact blt_le (Nat.zero_le _) (hR b hb)
theorem r1_lt (l : List Int) (m : Nat) : Blk.lt m (.rows 1 (l.map r1)) := by
  intro row hr
  obtain ⟨x, _, rfl⟩ := List.mem_map.1 hr
  rfl
theorem put_r (s : S) (i : Nat) (front : Bool) (t : T) (q : Q) (ht : s.thr[i]? = some t) (hc : 0 ≤ t.cpu) (hq : s.cpus[t.cpu.toNat]? = some q) (hl : q.ready.length ≤ 1000) (hx : ∀ x ∈ q.ready, 0 ≤ x ∧ x < s.thr.length) :
    ACalls Try.prog 93 [.ptr 0 0 0, iv i, .bool front] (s.heap []) (fun o H => o = .ret (.tuple []) ∧ H = (s.enq i front).heap []) := by
  have henq : s.enq i front = s.setQ t.cpu.toNat { q with ready := insP (s.below t.pri front) i q.ready } := by simp only [S.enq, ht, hq]
  rw [henq]
  refine ACalls.up ?_
  refine ACalls.intro (cs := []) (n := 88) Try.func93 rfl rfl rfl (by kernel_rfl) rfl ?_
  generalize hpost : (fun (o : Out) (H : Heap) => o = Out.ret (.tuple []) ∧ _) = post
  have hti : i < s.thr.length := (List.getElem?_eq_some_iff.1 ht).1
  have hti2 : (i : Int) < s.thr.length := by omega
  have hcl : t.cpu.toNat < s.cpus.length := (List.getElem?_eq_some_iff.1 hq).1
  have hcl2 : t.cpu < s.cpus.length := by omega
  simp only [go_sem, Nat.reduceAdd, Nat.reduceSub, Nat.reduceMul, Nat.reduceEqDiff, Nat.reduceLeDiff, Nat.reduceLT, ↓reduceIte, Int.reduceToNat, reduceCtorEq, Int.cast_ofNat_Int, Int.reduceLT, Int.reduceLE, Int.reduceGT, Int.reduceGE, Int.reduceEq, Int.reduceNe, Int.reduceNeg, Int.reduceAdd, Int.reduceSub, Int.le_refl, S.heap, List.length_map, List.getElem?_map, ht, hq, hti, hti2, hcl, hcl2, hc, T.row, Q.row, Int.natCast_nonneg]
  refine draw [.qu 0 0, .qu 0 0, .qu 0 0, .qu 0 0, .qu 0 0, .qu 0 0, .qu 0 0, .qu 0 0, .qu 0 0, .qu 0 0] (by kernel_rfl) (by kernel_rfl) ?_
  simp only [go_sem, Nat.reduceAdd, Nat.reduceSub, Nat.reduceMul, Nat.reduceEqDiff, Nat.reduceLeDiff, Nat.reduceLT, ↓reduceIte, Int.reduceToNat, reduceCtorEq, Int.cast_ofNat_Int, Int.reduceLT, Int.reduceLE, Int.reduceGT, Int.reduceGE, Int.reduceEq, Int.reduceNe, Int.reduceNeg, Int.reduceAdd, Int.reduceSub, Int.le_refl, S.heap, List.length_map, List.getElem?_map, ht, hq, hti, hti2, hcl, hcl2, hc, T.row, Q.row, Int.natCast_nonneg]
  have hlt : ∀ b ∈ s.heap [.rows 3 [t.row]], b.lt 4 := S.heap_ltR _ (by simp [Blk.lt, ltL, AV.lt, T.row]) (by decide)
  have hpx : ∀ x ∈ q.ready, ∃ tx, s.thr[x.toNat]? = some tx ∧ s.pri x = tx.pri := fun x hxm => by
    have := hx x hxm
    obtain ⟨tx, htx⟩ : ∃ tx, s.thr[x.toNat]? = some tx := at_lt (by omega)
    exact ⟨tx, htx, by simp [S.pri, htx]⟩
  refine loop_fam (fun x : Nat × List Int × Bool => (((((((Ch.nil.put 0 (.ptr 0 0 0)).put 1 (iv i)).put 2 (.bool front)).put 6 (.ptr 3 0 0)).put 7 (.view false 1 (q.ready.map r1))).put 8 (.sl 4 0 x.2.1.length none)).put 9 (.bool x.2.2)).put 10 (iv x.1))
    (fun x => s.heap [.rows 3 [t.row], .rows 1 (x.2.1.map r1)]) (fun x => q.ready.length - x.1)
    (fun x => x.1 ≤ q.ready.length ∧ x.2.1.length ≤ x.1 + (if x.2.2 = true then 1 else 0) ∧ insP (s.below t.pri front) i q.ready = x.2.1 ++ (if x.2.2 = true then q.ready.drop x.1 else insP (s.below t.pri front) i (q.ready.drop x.1))) (0, [], false) (by kernel_rfl) ⟨Nat.zero_le _, by simp, by simp⟩ ?_ ?_
  · exact (Wk.slots (s' := (((((((Ch.nil.put 0 (.ptr 0 0 0)).put 1 (iv i)).put 2 (.bool front)).put 6 (.ptr 3 0 0)).put 7 (.view false 1 (q.ready.map r1))).put 8 (.view true 0 [])).put 9 (.bool false)).put 10 (iv 0)) (by simp [wkS, Ch.get])).trans
      ((Wk.ghost (.rows 1 [])).trans (Wk.le (.cons _ (.cons _ (.cons _ (LeC.refl _) (.sl0 0 4 0)) (.refl _)) (.refl _)) (LeH.refl _)))
  rintro ⟨k, acc, d⟩ ⟨hk, hacc, hinv⟩ K hK
  simp only at hk hacc hinv
  simp only [go_sem, Nat.reduceAdd, Nat.reduceSub, Nat.reduceMul, Nat.reduceEqDiff, Nat.reduceLeDiff, Nat.reduceLT, ↓reduceIte, Int.reduceToNat, reduceCtorEq, Int.cast_ofNat_Int, Int.reduceLT, Int.reduceLE, Int.reduceGT, Int.reduceGE, Int.reduceEq, Int.reduceNe, Int.reduceNeg, Int.reduceAdd, Int.reduceSub, Int.le_refl, S.heap, List.length_map]
  refine condD_dec (fun hg => ?_) (fun hg => ?_)
  · have hk' : k < q.ready.length := by omega
    obtain ⟨y, hy⟩ := at_lt hk'
    have hym := List.mem_of_getElem? hy
    obtain ⟨ty, hty, hpy⟩ := hpx y hym
    have hy0 := hx y hym
    have hyl : y.toNat < s.thr.length := by omega
    have e1 : iw .i64 ((k : Int) + 1) = ((k + 1 : Nat) : Int) := by rw [iw64] <;> omega
    simp only [go_sem, Nat.reduceAdd, Nat.reduceSub, Nat.reduceMul, Nat.reduceEqDiff, Nat.reduceLeDiff, Nat.reduceLT, ↓reduceIte, Int.reduceToNat, reduceCtorEq, Int.cast_ofNat_Int, Int.reduceLT, Int.reduceLE, Int.reduceGT, Int.reduceGE, Int.reduceEq, Int.reduceNe, Int.reduceNeg, Int.reduceAdd, Int.reduceSub, Int.le_refl]
    refine draw [.qu 0 0, .qu 0 0, .qu 0 0, .qu 0 0, .qu 0 0, .qu 0 0, .qu 0 0, .qu 0 0, .qu 0 0, .qu 0 0, .qu 0 0, .qu 0 0] (by kernel_rfl) (by kernel_rfl) ?_
    simp only [go_sem, Nat.reduceAdd, Nat.reduceSub, Nat.reduceMul, Nat.reduceEqDiff, Nat.reduceLeDiff, Nat.reduceLT, ↓reduceIte, Int.reduceToNat, reduceCtorEq, Int.cast_ofNat_Int, Int.reduceLT, Int.reduceLE, Int.reduceGT, Int.reduceGE, Int.reduceEq, Int.reduceNe, Int.reduceNeg, Int.reduceAdd, Int.reduceSub, Int.le_refl, List.length_map, List.getElem?_map, hy, hg, hk', Int.natCast_nonneg, hy0, hyl, hty, T.row, true_and]
    have hd := drop_at hy
    have hacc0 : acc.length ≤ k + 1 := by split at hacc <;> omega
    have ha1 : acc.length + 1 ≤ 68719476736 := by omega
    have ha2 : acc.length + 1 + 1 ≤ 68719476736 := by omega
    have e4 : (acc.map r1).take acc.length = acc.map r1 := List.take_of_length_le (by simp)
    have hbel : s.below t.pri front y = (decide (ty.pri < t.pri) || (front && decide (ty.pri = t.pri))) := by simp only [S.below, hpy]
    have e5 : (acc.map r1 ++ [[iv i]]).take (acc.length + 1) = acc.map r1 ++ [[iv i]] := List.take_of_length_le (by simp)
    cases d
    · simp only [Bool.false_eq_true, if_false] at hacc
      have hins : (front && decide (ty.pri = t.pri)) = true ∨ ty.pri < t.pri → insP (s.below t.pri front) i q.ready = acc ++ [(i : Int), y] ++ q.ready.drop (k + 1) := fun h => by
        rw [hinv, hd]
        have : s.below t.pri front y = true := by rw [hbel]; rcases h with h | h <;> simp [h]
        simp [insP, this]
      have hnot : ¬ ty.pri < t.pri → (front && decide (ty.pri = t.pri)) = false → insP (s.below t.pri front) i q.ready = acc ++ [y] ++ insP (s.below t.pri front) i (q.ready.drop (k + 1)) := fun h h' => by
        rw [hinv, hd]
        have : s.below t.pri front y = false := by rw [hbel, h']; simp [h]
        simp [insP, this]
      by_cases b1 : ty.pri < t.pri
      · simp only [go_sem, Nat.reduceAdd, Nat.reduceSub, Nat.reduceMul, Nat.reduceEqDiff, Nat.reduceLeDiff, Nat.reduceLT, ↓reduceIte, Int.reduceToNat, reduceCtorEq, Int.cast_ofNat_Int, Int.reduceLT, Int.reduceLE, Int.reduceGT, Int.reduceGE, Int.reduceEq, Int.reduceNe, Int.reduceNeg, Int.reduceAdd, Int.reduceSub, Int.le_refl, List.length_map, List.getElem?_map, hy, hg, hk', Int.natCast_nonneg, hy0, hyl, hty, T.row, true_and, ha1, ha2, e4, e5, and_false, e1, List.length_append, b1]
        exact hK (k + 1, acc ++ [(i : Int), y], true) _ _ ⟨hk', by simp; omega, hins (.inr b1)⟩ (by dsimp only; omega) (Wk.push (A := s.heap [.rows 3 [t.row]]) (b := .rows 1 ((acc ++ [(i : Int), y]).map r1)) 8 rfl (by simp [r1]) (by simp [S.heap]) hlt (r1_lt _ _) (by simp [S.heap]) (by simp [wkP, Ch.get, AV.ren, pu_lt, pu_eq, S.heap]))
      cases front
      · simp only [go_sem, Nat.reduceAdd, Nat.reduceSub, Nat.reduceMul, Nat.reduceEqDiff, Nat.reduceLeDiff, Nat.reduceLT, ↓reduceIte, Int.reduceToNat, reduceCtorEq, Int.cast_ofNat_Int, Int.reduceLT, Int.reduceLE, Int.reduceGT, Int.reduceGE, Int.reduceEq, Int.reduceNe, Int.reduceNeg, Int.reduceAdd, Int.reduceSub, Int.le_refl, List.length_map, List.getElem?_map, hy, hg, hk', Int.natCast_nonneg, hy0, hyl, hty, T.row, true_and, ha1, ha2, e4, e5, and_false, e1, List.length_append, b1]
        exact hK (k + 1, acc ++ [y], false) _ _ ⟨hk', by simp; omega, hnot b1 rfl⟩ (by dsimp only; omega) (Wk.push (A := s.heap [.rows 3 [t.row]]) (b := .rows 1 ((acc ++ [y]).map r1)) 6 rfl (by simp [r1]) (by simp [S.heap]) hlt (r1_lt _ _) (by simp [S.heap]) (by simp [wkP, Ch.get, AV.ren, pu_lt, pu_eq, S.heap]))
      · by_cases b2 : ty.pri = t.pri
        · simp only [go_sem, Nat.reduceAdd, Nat.reduceSub, Nat.reduceMul, Nat.reduceEqDiff, Nat.reduceLeDiff, Nat.reduceLT, ↓reduceIte, Int.reduceToNat, reduceCtorEq, Int.cast_ofNat_Int, Int.reduceLT, Int.reduceLE, Int.reduceGT, Int.reduceGE, Int.reduceEq, Int.reduceNe, Int.reduceNeg, Int.reduceAdd, Int.reduceSub, Int.le_refl, List.length_map, List.getElem?_map, hy, hg, hk', Int.natCast_nonneg, hy0, hyl, hty, T.row, true_and, ha1, ha2, e4, e5, and_false, e1, List.length_append, b1, b2, Int.lt_irrefl]
          exact hK (k + 1, acc ++ [(i : Int), y], true) _ _ ⟨hk', by simp; omega, hins (.inl (by simp [b2]))⟩ (by dsimp only; omega) (Wk.push (A := s.heap [.rows 3 [t.row]]) (b := .rows 1 ((acc ++ [(i : Int), y]).map r1)) 8 rfl (by simp [r1]) (by simp [S.heap]) hlt (r1_lt _ _) (by simp [S.heap]) (by simp [wkP, Ch.get, AV.ren, pu_lt, pu_eq, S.heap]))
        · simp only [go_sem, Nat.reduceAdd, Nat.reduceSub, Nat.reduceMul, Nat.reduceEqDiff, Nat.reduceLeDiff, Nat.reduceLT, ↓reduceIte, Int.reduceToNat, reduceCtorEq, Int.cast_ofNat_Int, Int.reduceLT, Int.reduceLE, Int.reduceGT, Int.reduceGE, Int.reduceEq, Int.reduceNe, Int.reduceNeg, Int.reduceAdd, Int.reduceSub, Int.le_refl, List.length_map, List.getElem?_map, hy, hg, hk', Int.natCast_nonneg, hy0, hyl, hty, T.row, true_and, ha1, ha2, e4, e5, and_false, e1, List.length_append, b1, b2]
          exact hK (k + 1, acc ++ [y], false) _ _ ⟨hk', by simp; omega, hnot b1 (by simp [b2])⟩ (by dsimp only; omega) (Wk.push (A := s.heap [.rows 3 [t.row]]) (b := .rows 1 ((acc ++ [y]).map r1)) 6 rfl (by simp [r1]) (by simp [S.heap]) hlt (r1_lt _ _) (by simp [S.heap]) (by simp [wkP, Ch.get, AV.ren, pu_lt, pu_eq, S.heap]))
    · simp only [if_true] at hacc
      have hins : insP (s.below t.pri front) i q.ready = acc ++ [y] ++ q.ready.drop (k + 1) := by rw [hinv, hd]; simp
      simp only [go_sem, Nat.reduceAdd, Nat.reduceSub, Nat.reduceMul, Nat.reduceEqDiff, Nat.reduceLeDiff, Nat.reduceLT, ↓reduceIte, Int.reduceToNat, reduceCtorEq, Int.cast_ofNat_Int, Int.reduceLT, Int.reduceLE, Int.reduceGT, Int.reduceGE, Int.reduceEq, Int.reduceNe, Int.reduceNeg, Int.reduceAdd, Int.reduceSub, Int.le_refl, List.length_map, List.getElem?_map, hy, hg, hk', Int.natCast_nonneg, hy0, hyl, hty, T.row, true_and, ha1, ha2, e4, e5, and_false, e1, List.length_append, Nat.le_refl]
      exact hK (k + 1, acc ++ [y], true) _ _ ⟨hk', by simp; omega, hins⟩ (by dsimp only; omega) (Wk.push (A := s.heap [.rows 3 [t.row]]) (b := .rows 1 ((acc ++ [y]).map r1)) 6 rfl (by simp [r1]) (by simp [S.heap]) hlt (r1_lt _ _) (by simp [S.heap]) (by simp [wkP, Ch.get, AV.ren, pu_lt, pu_eq, S.heap]))
  · have hkl : k = q.ready.length := by omega
    subst hkl
    have ha1 : acc.length + 1 ≤ 68719476736 := by split at hacc <;> omega
    have e4 : (acc.map r1).take acc.length = acc.map r1 := List.take_of_length_le (by simp)
    rw [List.drop_length] at hinv
    have hR : ∀ R, (∀ b ∈ R, b.lt 0) → ∀ b ∈ Blk.rows 3 [t.row] :: R, b.lt 0 := by
      intro R hR b hb
      rcases List.mem_cons.1 hb with rfl | hb
      · simp [Blk.lt, T.row, ltL, AV.lt]
      · exact hR b hb
    cases d
    · simp only [insP] at hinv
      simp only [go_sem, Nat.reduceAdd, Nat.reduceSub, Nat.reduceMul, Nat.reduceEqDiff, Nat.reduceLeDiff, Nat.reduceLT, ↓reduceIte, Int.reduceToNat, reduceCtorEq, Int.cast_ofNat_Int, Int.reduceLT, Int.reduceLE, Int.reduceGT, Int.reduceGE, Int.reduceEq, Int.reduceNe, Int.reduceNeg, Int.reduceAdd, Int.reduceSub, Int.le_refl, e4, ha1, List.length_map]
      refine draw [.qu 0 0, .qu 0 0, .qu 0 0, .qu 0 0, .qu 0 0, .qu 0 0, .qu 0 0, .qu 0 0, .qu 0 0, .mn 0] (by kernel_rfl) (by kernel_rfl) ?_
      simp only [go_sem, Nat.reduceAdd, Nat.reduceSub, Nat.reduceMul, Nat.reduceEqDiff, Nat.reduceLeDiff, Nat.reduceLT, ↓reduceIte, Int.reduceToNat, reduceCtorEq, Int.cast_ofNat_Int, Int.reduceLT, Int.reduceLE, Int.reduceGT, Int.reduceGE, Int.reduceEq, Int.reduceNe, Int.reduceNeg, Int.reduceAdd, Int.reduceSub, Int.le_refl, e4, ha1, List.length_map, hcl, hcl2, hc, T.row, List.getElem?_map, hq, Q.row]
      subst hpost
      have hn : acc.length + 1 = (insP (s.below t.pri front) i q.ready).length := by rw [hinv]; simp
      rw [hn]
      refine newReady (s := s) (c := t.cpu.toNat) (q := q) (l := insP (s.below t.pri front) i q.ready) (r := 6) (R := [.rows 3 [[iv t.pri, iv t.cpu, iv t.st]], .dead, .rows 1 [[iv i]], .rows 1 (acc.map r1 ++ [[iv i]])]) hq rfl (by simp [S.heap, hinv, r1]) (by decide) ⟨rfl, rfl⟩ ?_
      refine hR _ ?_
      intro b hb
      simp only [List.mem_cons, List.not_mem_nil, or_false] at hb
      rcases hb with rfl | rfl | rfl
      · trivial
      · simp [Blk.lt, ltL, AV.lt]
      · have := r1_lt (acc ++ [(i : Int)]) 0
        simpa [r1] using this
    · simp only [go_sem, Nat.reduceAdd, Nat.reduceSub, Nat.reduceMul, Nat.reduceEqDiff, Nat.reduceLeDiff, Nat.reduceLT, ↓reduceIte, Int.reduceToNat, reduceCtorEq, Int.cast_ofNat_Int, Int.reduceLT, Int.reduceLE, Int.reduceGT, Int.reduceGE, Int.reduceEq, Int.reduceNe, Int.reduceNeg, Int.reduceAdd, Int.reduceSub, Int.le_refl]
      refine draw [.qu 0 0, .qu 0 0, .qu 0 0, .qu 0 0, .qu 0 0, .qu 0 0, .qu 0 0, .qu 0 0, .qu 0 0, .mn 0] (by kernel_rfl) (by kernel_rfl) ?_
      simp only [go_sem, Nat.reduceAdd, Nat.reduceSub, Nat.reduceMul, Nat.reduceEqDiff, Nat.reduceLeDiff, Nat.reduceLT, ↓reduceIte, Int.reduceToNat, reduceCtorEq, Int.cast_ofNat_Int, Int.reduceLT, Int.reduceLE, Int.reduceGT, Int.reduceGE, Int.reduceEq, Int.reduceNe, Int.reduceNeg, Int.reduceAdd, Int.reduceSub, Int.le_refl, List.length_map, hcl, hcl2, hc, T.row, List.getElem?_map, hq, Q.row]
      subst hpost
      simp only [if_true, List.append_nil] at hinv
      rw [← hinv]
      refine newReady (s := s) (c := t.cpu.toNat) (q := q) (l := insP (s.below t.pri front) i q.ready) (r := 4) (R := [.rows 3 [[iv t.pri, iv t.cpu, iv t.st]], .rows 1 ((insP (s.below t.pri front) i q.ready).map r1)]) hq rfl (by simp [S.heap]) (by decide) ⟨rfl, rfl⟩ ?_
      refine hR _ ?_
      intro b hb
      simp only [List.mem_cons, List.not_mem_nil, or_false] at hb
      subst hb
      exact r1_lt _ 0
end Go.Proofs.Ytljepmbikbdicaa

set_option maxRecDepth 100000
set_option linter.unusedVariables false
set_option linter.unusedSimpArgs false
namespace Go.Proofs.Ytljepmbikbdicaa
open Go.AM
theorem ltL_mem {m : Nat} {xs : List AV} (h : ltL m xs = true) : ∀ x ∈ xs, x.lt m = true := fun x hx => by
  obtain ⟨k, hk⟩ := List.getElem?_of_mem hx
  exact ltL_get h hk
theorem out_r (s : S) (i : Nat) (t : T) (q : Q) (ht : s.thr[i]? = some t) (hc : 0 ≤ t.cpu) (hq : s.cpus[t.cpu.toNat]? = some q) (hl : q.ready.length ≤ 1000) :
    ACalls Try.prog 96 [.ptr 0 0 0, iv i] (s.heap []) (fun o H => o = .ret (.tuple []) ∧ H = (s.deq i).heap []) := by
  have hdeq : s.deq i = s.setQ t.cpu.toNat { q with ready := q.ready.filter (fun x : Int => decide (x ≠ i)) } := by simp only [S.deq, ht, hq]
  rw [hdeq]
  refine ACalls.up ?_
  refine ACalls.intro (cs := []) (n := 63) Try.func96 rfl rfl rfl (by kernel_rfl) rfl ?_
  generalize hpost : (fun (o : Out) (H : Heap) => o = Out.ret (.tuple []) ∧ _) = post
  have hti : i < s.thr.length := (List.getElem?_eq_some_iff.1 ht).1
  have hti2 : (i : Int) < s.thr.length := by omega
  have hcl : t.cpu.toNat < s.cpus.length := (List.getElem?_eq_some_iff.1 hq).1
  have hcl2 : t.cpu < s.cpus.length := by omega
  simp only [go_sem, Nat.reduceAdd, Nat.reduceSub, Nat.reduceMul, Nat.reduceEqDiff, Nat.reduceLeDiff, Nat.reduceLT, ↓reduceIte, Int.reduceToNat, reduceCtorEq, Int.cast_ofNat_Int, Int.reduceLT, Int.reduceLE, Int.reduceGT, Int.reduceGE, Int.reduceEq, Int.reduceNe, Int.reduceNeg, Int.reduceAdd, Int.reduceSub, Int.le_refl, S.heap, List.length_map, List.getElem?_map, ht, hq, hti, hti2, hcl, hcl2, hc, T.row, Q.row, Int.natCast_nonneg]
  refine loop_fam (fun x : Nat × List Int => (((((Ch.nil.put 0 (.ptr 0 0 0)).put 1 (iv i)).put 4 (iv t.cpu)).put 5 (.sl 3 0 x.2.length none)).put 6 (iv x.1)))
    (fun x => s.heap [.rows 1 (x.2.map r1)]) (fun x => q.ready.length - x.1)
    (fun x => x.1 ≤ q.ready.length ∧ x.2.length ≤ x.1 ∧ q.ready.filter (fun x : Int => decide (x ≠ i)) = x.2 ++ (q.ready.drop x.1).filter (fun x : Int => decide (x ≠ i))) (0, []) (by kernel_rfl) ⟨Nat.zero_le _, by simp, by simp⟩ ?_ ?_
  · exact (Wk.slots (s' := (((((Ch.nil.put 0 (.ptr 0 0 0)).put 1 (iv i)).put 4 (iv t.cpu)).put 5 (.view true 0 [])).put 6 (iv 0))) (by simp [wkS, Ch.get])).trans
      ((Wk.ghost (.rows 1 [])).trans (Wk.le (.cons _ (.cons _ (LeC.refl _) (.sl0 0 3 0)) (.refl _)) (LeH.refl _)))
  rintro ⟨k, acc⟩ ⟨hk, hacc, hinv⟩ K hK
  simp only at hk hacc hinv
  simp only [go_sem, Nat.reduceAdd, Nat.reduceSub, Nat.reduceMul, Nat.reduceEqDiff, Nat.reduceLeDiff, Nat.reduceLT, ↓reduceIte, Int.reduceToNat, reduceCtorEq, Int.cast_ofNat_Int, Int.reduceLT, Int.reduceLE, Int.reduceGT, Int.reduceGE, Int.reduceEq, Int.reduceNe, Int.reduceNeg, Int.reduceAdd, Int.reduceSub, Int.le_refl, S.heap, List.length_map, hcl, hcl2, hc, List.getElem?_map, hq, Q.row]
  refine condD_dec (fun hg => ?_) (fun hg => ?_)
  · have hk' : k < q.ready.length := by omega
    obtain ⟨y, hy⟩ := at_lt hk'
    have e1 : iw .i64 ((k : Int) + 1) = ((k + 1 : Nat) : Int) := by rw [iw64] <;> omega
    have hd := drop_at hy
    have ha1 : acc.length + 1 ≤ 68719476736 := by omega
    have e4 : (acc.map r1).take acc.length = acc.map r1 := List.take_of_length_le (by simp)
    rw [hd] at hinv
    simp only [go_sem, Nat.reduceAdd, Nat.reduceSub, Nat.reduceMul, Nat.reduceEqDiff, Nat.reduceLeDiff, Nat.reduceLT, ↓reduceIte, Int.reduceToNat, reduceCtorEq, Int.cast_ofNat_Int, Int.reduceLT, Int.reduceLE, Int.reduceGT, Int.reduceGE, Int.reduceEq, Int.reduceNe, Int.reduceNeg, Int.reduceAdd, Int.reduceSub, Int.le_refl, List.length_map, hcl, hcl2, hc, List.getElem?_map, hq, Q.row, hy, hg, hk', Int.natCast_nonneg]
    refine condD_dec (fun hn => ?_) (fun hn => ?_)
    · simp only [go_sem, Nat.reduceAdd, Nat.reduceSub, Nat.reduceMul, Nat.reduceEqDiff, Nat.reduceLeDiff, Nat.reduceLT, ↓reduceIte, Int.reduceToNat, reduceCtorEq, Int.cast_ofNat_Int, Int.reduceLT, Int.reduceLE, Int.reduceGT, Int.reduceGE, Int.reduceEq, Int.reduceNe, Int.reduceNeg, Int.reduceAdd, Int.reduceSub, Int.le_refl, List.length_map, hcl, hcl2, hc, List.getElem?_map, hq, Q.row, hy, hg, hk', Int.natCast_nonneg, e1, e4, ha1]
      exact hK (k + 1, acc ++ [y]) _ _ ⟨hk', by simp; omega, by rw [hinv, List.filter_cons_of_pos (by simp [hn])]; simp⟩ (by dsimp only; omega)
        (Wk.push (A := s.heap []) (b := .rows 1 ((acc ++ [y]).map r1)) 5 rfl (by simp [r1]) (by simp [S.heap]) (S.heap_ltR _ (by simp) (by simp [S.heap])) (r1_lt _ _) (by simp [S.heap]) (by simp [wkP, Ch.get, AV.ren, pu_lt, pu_eq, S.heap]))
    · simp only [go_sem, Nat.reduceAdd, Nat.reduceSub, Nat.reduceMul, Nat.reduceEqDiff, Nat.reduceLeDiff, Nat.reduceLT, ↓reduceIte, Int.reduceToNat, reduceCtorEq, Int.cast_ofNat_Int, Int.reduceLT, Int.reduceLE, Int.reduceGT, Int.reduceGE, Int.reduceEq, Int.reduceNe, Int.reduceNeg, Int.reduceAdd, Int.reduceSub, Int.le_refl, e1]
      exact hK (k + 1, acc) _ _ ⟨hk', by dsimp only; omega, by rw [hinv, List.filter_cons_of_neg (by simp [hn])]⟩ (by dsimp only; omega) (Wk.slots' rfl (by simp [wkS, Ch.get]))
  · have hkl : k = q.ready.length := by omega
    subst hkl
    rw [List.drop_length] at hinv
    simp only [List.filter_nil, List.append_nil] at hinv
    simp only [go_sem, Nat.reduceAdd, Nat.reduceSub, Nat.reduceMul, Nat.reduceEqDiff, Nat.reduceLeDiff, Nat.reduceLT, ↓reduceIte, Int.reduceToNat, reduceCtorEq, Int.cast_ofNat_Int, Int.reduceLT, Int.reduceLE, Int.reduceGT, Int.reduceGE, Int.reduceEq, Int.reduceNe, Int.reduceNeg, Int.reduceAdd, Int.reduceSub, Int.le_refl, List.length_map, hcl, hcl2, hc, List.getElem?_map, hq, Q.row]
    subst hpost
    rw [← hinv]
    exact newReady (s := s) (c := t.cpu.toNat) (q := q) (r := 3) (R := [.rows 1 ((q.ready.filter (fun x : Int => decide (x ≠ i))).map r1)]) hq rfl (by simp [S.heap]) (by decide) ⟨rfl, rfl⟩ (by
      intro b hb
      simp only [List.mem_cons, List.not_mem_nil, or_false] at hb
      subst hb
      exact r1_lt _ 0)
/-- A copy, behind other blocks. -/
theorem Copy_u (s : S) (hf : s.Fit) (H : Heap) (n : Nat) (hn : H.length = n) :
    ACalls Try.prog 92 [s.av] H (fun o H2 => o = .ret (.agg [.sl (n + 1) 0 s.cpus.length none, .sl n 0 s.thr.length none, iv s.quantum]) ∧ H2 = H ++ [.rows 3 (s.thr.map T.row), .rows 3 (s.cpus.map Q.row)]) := by
  subst hn
  refine (Copy_c s hf.c hf.t hf.r).use (H := H) [] List.nodup_nil rfl (by simp) (by simp) (renL_pure' (by simp [ltL, S.av, AV.lt])).symm ?_
  rintro o H0' ⟨rfl, rfl⟩
  refine ⟨?_, ?_⟩
  · simp [Out.ren, AV.ren, pi, renL]
  · simp only [patch, setMany, List.length_nil, List.drop_zero, List.map_cons, List.map_nil, bren_Q, bren_T]
/-- The state at the end. -/
theorem up_state {s : S} {R : Heap} {post : CQ} {v v' : AV} (h1 : v.fzOk 1 s.cpus.length) (h2 : (v.fz 1 3 (s.cpus.map Q.row)).fzOk 2 s.thr.length) (h3 : (v.fz 1 3 (s.cpus.map Q.row)).fz 2 3 (s.thr.map T.row) = v') (h4 : v'.lt 0 = true) (hR : ∀ b ∈ R, b.lt 0) (hq : post (.ret v') []) : Up 0 post (.ret v) (s.heap R) := by
  have hRf : ∀ r sz (xs : List (List AV)), R.map (Blk.fz r sz xs) = R := fun r sz xs => by
    conv => rhs; rw [← List.map_id' R]
    exact List.map_congr_left fun b hb => bfz0 (hR b hb)
  refine Up.kill [0] _ (.fz 1 3 (s.cpus.map Q.row) rfl (fun row hr x hx => ltL_mem (Q.rows_lt _ 0 row hr) x hx) (by simpa [Out.fzOk] using h1) ?_ ?_)
  · intro b hb
    simp only [kill, S.heap, List.set_cons_zero, List.set_cons_succ, List.mem_cons] at hb
    rcases hb with rfl | rfl | rfl | hb
    · trivial
    · trivial
    · exact bfzOk_pure (T.rows_lt _ 0)
    · exact bok0 (hR b hb)
  · have e1 : List.map (Blk.fz 1 3 (s.cpus.map Q.row)) ((kill (s.heap R) [0]).set 1 .dead) = .dead :: .dead :: .rows 3 (s.thr.map T.row) :: R := by
      simp only [kill, S.heap, List.set_cons_zero, List.set_cons_succ, List.map_cons, bfz_T, hRf]
      rfl
    rw [e1]
    refine .fz 2 3 (s.thr.map T.row) rfl (fun row hr x hx => ltL_mem (T.rows_lt _ 0 row hr) x hx) (by simpa [Out.fzOk, Out.fz] using h2) ?_ ?_
    · intro b hb
      simp only [List.set_cons_zero, List.set_cons_succ, List.mem_cons] at hb
      rcases hb with rfl | rfl | rfl | hb
      · trivial
      · trivial
      · trivial
      · exact bok0 (hR b hb)
    · refine .gc 0 (Nat.le_refl _) (Nat.zero_le _) ?_ (by simp) (.done ?_)
      · simp only [Out.fz, Out.lt, h3]; exact h4
      · simp only [Out.fz, h3, List.take_zero]; exact hq
theorem up_state1 {s : S} {R : Heap} {post : CQ} (hR : ∀ b ∈ R, b.lt 0) (hq : post (.ret s.av) []) : Up 0 post (.ret (.agg [.sl 1 0 s.cpus.length none, .sl 2 0 s.thr.length none, iv s.quantum])) (s.heap R) := by
  have e1 : (s.cpus.map Q.row).take s.cpus.length = s.cpus.map Q.row := List.take_of_length_le (by simp)
  have e2 : (s.thr.map T.row).take s.thr.length = s.thr.map T.row := List.take_of_length_le (by simp)
  exact up_state (v' := s.av) (by simp [AV.fzOk, fzOkL]) (by simp [AV.fz, fzL, AV.fzOk, fzOkL]) (by simp [AV.fz, fzL, S.av, e1, e2]) (by simp [S.av, AV.lt, ltL]) hR hq
theorem up_state2 {s : S} {n : Int} {R : Heap} {post : CQ} (hR : ∀ b ∈ R, b.lt 0) (hq : post (.ret (.tuple [s.av, iv n])) []) : Up 0 post (.ret (.tuple [.agg [.sl 1 0 s.cpus.length none, .sl 2 0 s.thr.length none, iv s.quantum], iv n])) (s.heap R) := by
  have e1 : (s.cpus.map Q.row).take s.cpus.length = s.cpus.map Q.row := List.take_of_length_le (by simp)
  have e2 : (s.thr.map T.row).take s.thr.length = s.thr.map T.row := List.take_of_length_le (by simp)
  exact up_state (v' := .tuple [s.av, iv n]) (by simp [AV.fzOk, fzOkL]) (by simp [AV.fz, fzL, AV.fzOk, fzOkL]) (by simp [AV.fz, fzL, S.av, e1, e2]) (by simp [S.av, AV.lt, ltL]) hR hq
end Go.Proofs.Ytljepmbikbdicaa

set_option maxRecDepth 100000
set_option linter.unusedVariables false
set_option linter.unusedSimpArgs false
namespace Go.Proofs.Ytljepmbikbdicaa
open Go.AM
theorem fin_b {post : CQ} {b : Bool} (h : post (.ret (.bool b)) []) (H : Heap) : Up 0 post (.ret (.bool b)) H := .gc 0 (Nat.le_refl _) (Nat.zero_le _) rfl (by simp) (.done h)
theorem fin_i {post : CQ} {n : Int} (h : post (.ret (iv n)) []) (H : Heap) : Up 0 post (.ret (iv n)) H := .gc 0 (Nat.le_refl _) (Nat.zero_le _) rfl (by simp) (.done h)
theorem thread_c (s : S) (n : Int) : ACalls Try.prog 94 [s.av, iv n] [] (fun o H => o = .ret (.bool (decide (0 ≤ n ∧ n < s.thr.length))) ∧ H = []) := by
  refine ACalls.up ?_
  refine ACalls.intro (cs := []) (n := 14) Try.func94 rfl rfl rfl (by kernel_rfl) rfl ?_
  generalize hpost : (fun (o : Out) (H : Heap) => o = Out.ret (.bool (decide (0 ≤ n ∧ n < s.thr.length))) ∧ H = []) = post
  simp only [go_sem, Nat.reduceAdd, Nat.reduceSub, Nat.reduceMul, Nat.reduceEqDiff, Nat.reduceLeDiff, Nat.reduceLT, ↓reduceIte, Int.reduceToNat, reduceCtorEq, S.av]
  by_cases h1 : 0 ≤ n
  · by_cases h2 : n < s.thr.length <;> simp only [go_sem, Nat.reduceAdd, Nat.reduceSub, Nat.reduceMul, Nat.reduceEqDiff, Nat.reduceLeDiff, Nat.reduceLT, ↓reduceIte, Int.reduceToNat, reduceCtorEq, Int.cast_ofNat_Int, Int.reduceLT, Int.reduceLE, Int.reduceGT, Int.reduceGE, Int.reduceEq, Int.reduceNe, Int.reduceNeg, Int.reduceAdd, Int.reduceSub, Int.le_refl, h1, h2, List.length_map] <;> exact fin_b (by rw [← hpost]; simp [h1, h2]) _
  · simp only [go_sem, Nat.reduceAdd, Nat.reduceSub, Nat.reduceMul, Nat.reduceEqDiff, Nat.reduceLeDiff, Nat.reduceLT, ↓reduceIte, Int.reduceToNat, reduceCtorEq, Int.cast_ofNat_Int, Int.reduceLT, Int.reduceLE, Int.reduceGT, Int.reduceGE, Int.reduceEq, Int.reduceNe, Int.reduceNeg, Int.reduceAdd, Int.reduceSub, Int.le_refl, h1]
    exact fin_b (by rw [← hpost]; simp [h1]) _
theorem cpu_r (s : S) (n : Int) : ACalls Try.prog 69 [s.av, iv n] [] (fun o H => o = .ret (.bool (decide (0 ≤ n ∧ n < s.cpus.length))) ∧ H = []) := by
  refine ACalls.up ?_
  refine ACalls.intro (cs := []) (n := 14) Try.func69 rfl rfl rfl (by kernel_rfl) rfl ?_
  generalize hpost : (fun (o : Out) (H : Heap) => o = Out.ret (.bool (decide (0 ≤ n ∧ n < s.cpus.length))) ∧ H = []) = post
  simp only [go_sem, Nat.reduceAdd, Nat.reduceSub, Nat.reduceMul, Nat.reduceEqDiff, Nat.reduceLeDiff, Nat.reduceLT, ↓reduceIte, Int.reduceToNat, reduceCtorEq, S.av]
  by_cases h1 : 0 ≤ n
  · by_cases h2 : n < s.cpus.length <;> simp only [go_sem, Nat.reduceAdd, Nat.reduceSub, Nat.reduceMul, Nat.reduceEqDiff, Nat.reduceLeDiff, Nat.reduceLT, ↓reduceIte, Int.reduceToNat, reduceCtorEq, Int.cast_ofNat_Int, Int.reduceLT, Int.reduceLE, Int.reduceGT, Int.reduceGE, Int.reduceEq, Int.reduceNe, Int.reduceNeg, Int.reduceAdd, Int.reduceSub, Int.le_refl, h1, h2, List.length_map] <;> exact fin_b (by rw [← hpost]; simp [h1, h2]) _
  · simp only [go_sem, Nat.reduceAdd, Nat.reduceSub, Nat.reduceMul, Nat.reduceEqDiff, Nat.reduceLeDiff, Nat.reduceLT, ↓reduceIte, Int.reduceToNat, reduceCtorEq, Int.cast_ofNat_Int, Int.reduceLT, Int.reduceLE, Int.reduceGT, Int.reduceGE, Int.reduceEq, Int.reduceNe, Int.reduceNeg, Int.reduceAdd, Int.reduceSub, Int.le_refl, h1]
    exact fin_b (by rw [← hpost]; simp [h1]) _
theorem count_c (l : List Int) (x : Int) (f : Bool) (hl : l.length ≤ 1000000) : ACalls Try.prog 71 [.view f 1 (l.map r1), iv x] [] (fun o H => o = .ret (iv (l.count x : Int)) ∧ H = []) := by
  refine ACalls.up ?_
  refine ACalls.intro (cs := []) (n := 22) Try.func71 rfl rfl rfl (by kernel_rfl) rfl ?_
  generalize hpost : (fun (o : Out) (H : Heap) => o = Out.ret (iv (l.count x : Int)) ∧ H = []) = post
  simp only [go_sem, Nat.reduceAdd, Nat.reduceSub, Nat.reduceMul, Nat.reduceEqDiff, Nat.reduceLeDiff, Nat.reduceLT, ↓reduceIte, Int.reduceToNat, reduceCtorEq, Int.cast_ofNat_Int, Int.reduceLT, Int.reduceLE, Int.reduceGT, Int.reduceGE, Int.reduceEq, Int.reduceNe, Int.reduceNeg, Int.reduceAdd, Int.reduceSub, Int.le_refl]
  refine loop_fam (fun i : Nat => (((Ch.nil.put 0 (.view f 1 (l.map r1))).put 1 (iv x)).put 5 (iv ((l.take i).count x : Int))).put 6 (iv i)) (fun _ => []) (fun i => l.length - i) (fun i => i ≤ l.length) 0 (by kernel_rfl) (Nat.zero_le _) (Wk.slots' rfl (by simp [wkS, Ch.get])) ?_
  rintro i hi K hK
  simp only [go_sem, Nat.reduceAdd, Nat.reduceSub, Nat.reduceMul, Nat.reduceEqDiff, Nat.reduceLeDiff, Nat.reduceLT, ↓reduceIte, Int.reduceToNat, reduceCtorEq, Int.cast_ofNat_Int, Int.reduceLT, Int.reduceLE, Int.reduceGT, Int.reduceGE, Int.reduceEq, Int.reduceNe, Int.reduceNeg, Int.reduceAdd, Int.reduceSub, Int.le_refl, List.length_map]
  refine condD_dec (fun hc => ?_) (fun hc => ?_)
  · have hc' : i < l.length := by omega
    obtain ⟨y, hy⟩ := at_lt hc'
    have e1 : iw .i64 ((i : Int) + 1) = ((i + 1 : Nat) : Int) := by rw [iw64] <;> omega
    have hb : (l.take i).count x ≤ i := Nat.le_trans List.count_le_length (by simp; omega)
    have e2 : iw .i64 (((l.take i).count x : Int) + 1) = (((l.take i).count x + 1 : Nat) : Int) := by rw [iw64] <;> omega
    have e3 : (l.take (i + 1)).count x = (l.take i).count x + if y = x then 1 else 0 := by
      rw [List.take_add_one, hy, List.count_append]
      by_cases h : y = x <;> simp [h]
    simp only [go_sem, Nat.reduceAdd, Nat.reduceSub, Nat.reduceMul, Nat.reduceEqDiff, Nat.reduceLeDiff, Nat.reduceLT, ↓reduceIte, Int.reduceToNat, reduceCtorEq, Int.cast_ofNat_Int, Int.reduceLT, Int.reduceLE, Int.reduceGT, Int.reduceGE, Int.reduceEq, Int.reduceNe, Int.reduceNeg, Int.reduceAdd, Int.reduceSub, Int.le_refl, List.length_map, List.getElem?_map, hy, hc, hc', Int.natCast_nonneg]
    refine condD_dec (fun h => ?_) (fun h => ?_) <;> simp only [go_sem, Nat.reduceAdd, Nat.reduceSub, Nat.reduceMul, Nat.reduceEqDiff, Nat.reduceLeDiff, Nat.reduceLT, ↓reduceIte, Int.reduceToNat, reduceCtorEq, Int.cast_ofNat_Int, Int.reduceLT, Int.reduceLE, Int.reduceGT, Int.reduceGE, Int.reduceEq, Int.reduceNe, Int.reduceNeg, Int.reduceAdd, Int.reduceSub, Int.le_refl, e1, e2]
    · exact hK (i + 1) _ _ hc' (by omega) (Wk.slots' rfl (by rw [e3, if_pos h]; simp [wkS, Ch.get]))
    · exact hK (i + 1) _ _ hc' (by omega) (Wk.slots' rfl (by rw [e3, if_neg h]; simp [wkS, Ch.get]))
  · have : l.take i = l := List.take_of_length_le (by omega)
    simp only [go_sem, Nat.reduceAdd, Nat.reduceSub, Nat.reduceMul, Nat.reduceEqDiff, Nat.reduceLeDiff, Nat.reduceLT, ↓reduceIte, Int.reduceToNat, reduceCtorEq, Int.cast_ofNat_Int, Int.reduceLT, Int.reduceLE, Int.reduceGT, Int.reduceGE, Int.reduceEq, Int.reduceNe, Int.reduceNeg, Int.reduceAdd, Int.reduceSub, Int.le_refl, this]
    exact fin_i (by rw [← hpost]; exact ⟨rfl, rfl⟩) _
def S.Item (s : S) (c : Int) (l : List Int) (k : Nat) : Prop := ∀ y, l[k]? = some y → (s.is y c 1 = true ∧ l.count y = 1) ∧ (0 < k → ∀ z, l[k - 1]? = some z → s.pri y ≤ s.pri z)
def S.Head (s : S) (q : Q) : Prop := (q.run = -1 → q.left = 0) ∧ 0 ≤ q.left ∧ q.left ≤ s.quantum
def S.Proc (s : S) (c : Int) (q : Q) : Prop := s.Head q ∧ (q.run = -1 ∨ s.is q.run c 2 = true) ∧ ∀ (k : Nat), k < q.ready.length → s.Item c q.ready k
theorem processor_c (s : S) (c : Nat) (q : Q) (hq : s.cpus[c]? = some q) (hl : q.ready.length ≤ 1000) (b : Bool) (hb : b = true ↔ s.Proc c q) : ACalls Try.prog 70 [s.av, iv c] [] (fun o H => o = .ret (.bool b) ∧ H = []) := by
  refine ACalls.up ?_
  refine ACalls.intro (cs := [4, 6]) (n := 128) Try.func70 rfl rfl rfl (by kernel_rfl) rfl ?_
  generalize hpost : (fun (o : Out) (H : Heap) => o = Out.ret (.bool b) ∧ H = []) = post
  have bad : ∀ H, ¬ s.Proc c q → Up 0 post (.ret (.bool false)) H := fun H h => fin_b (by
    rw [← hpost]
    have : b = false := by cases b; rfl; exact absurd (hb.1 rfl) h
    rw [this]; exact ⟨rfl, rfl⟩) H
  have good : ∀ H, s.Proc c q → Up 0 post (.ret (.bool true)) H := fun H h => fin_b (by
    rw [← hpost, hb.2 h]; exact ⟨rfl, rfl⟩) H
  have hcl : c < s.cpus.length := (List.getElem?_eq_some_iff.1 hq).1
  have hcl2 : (c : Int) < s.cpus.length := by omega
  simp only [go_sem, Nat.reduceAdd, Nat.reduceSub, Nat.reduceMul, Nat.reduceEqDiff, Nat.reduceLeDiff, Nat.reduceLT, ↓reduceIte, Int.reduceToNat, reduceCtorEq, Int.cast_ofNat_Int, Int.reduceLT, Int.reduceLE, Int.reduceGT, Int.reduceGE, Int.reduceEq, Int.reduceNe, Int.reduceNeg, Int.reduceAdd, Int.reduceSub, Int.le_refl, S.av, List.length_map, List.getElem?_map, hq, hcl, hcl2, Int.natCast_nonneg, true_and, Q.row]
  refine seq_cut (fun _ : Unit => (((Ch.nil.put 1 (iv c)).put 2 (.ptr 0 0 0)).put 5 (.ptr 1 0 0)))
    (fun _ => [.rows 3 [[.view false 3 (s.cpus.map Q.row), .view false 3 (s.thr.map T.row), iv s.quantum]], .rows 3 [[iv q.run, iv q.left, .view false 1 (q.ready.map r1)]]])
    (fun _ => s.Head q) (by kernel_rfl) (fun K hK => ?_) (fun _ hh => ?_)
  · simp only [go_sem, Nat.reduceAdd, Nat.reduceSub, Nat.reduceMul, Nat.reduceEqDiff, Nat.reduceLeDiff, Nat.reduceLT, ↓reduceIte, Int.reduceToNat, reduceCtorEq, Int.cast_ofNat_Int, Int.reduceLT, Int.reduceLE, Int.reduceGT, Int.reduceGE, Int.reduceEq, Int.reduceNe, Int.reduceNeg, Int.reduceAdd, Int.reduceSub, Int.le_refl]
    have hbd : ¬ s.Head q → ∀ H, Up 0 post (.ret (.bool false)) H := fun h H => bad H fun g => h g.1
    unfold S.Head at hK hbd
    obtain ⟨run, left, ready⟩ := q
    simp only at hK hbd ⊢
    rcases Decidable.em (run = -1) with a1 | a1
    · rcases Decidable.em (left = 0) with rfl | a2
      · rcases Decidable.em (s.quantum < 0) with a4 | a4
        · simp only [go_sem, Nat.reduceAdd, Nat.reduceSub, Nat.reduceMul, Nat.reduceEqDiff, Nat.reduceLeDiff, Nat.reduceLT, ↓reduceIte, Int.reduceToNat, reduceCtorEq, Int.cast_ofNat_Int, Int.reduceLT, Int.reduceLE, Int.reduceGT, Int.reduceGE, Int.reduceEq, Int.reduceNe, Int.reduceNeg, Int.reduceAdd, Int.reduceSub, Int.le_refl, a1, a4]
          exact hbd (by omega) _
        · simp only [go_sem, Nat.reduceAdd, Nat.reduceSub, Nat.reduceMul, Nat.reduceEqDiff, Nat.reduceLeDiff, Nat.reduceLT, ↓reduceIte, Int.reduceToNat, reduceCtorEq, Int.cast_ofNat_Int, Int.reduceLT, Int.reduceLE, Int.reduceGT, Int.reduceGE, Int.reduceEq, Int.reduceNe, Int.reduceNeg, Int.reduceAdd, Int.reduceSub, Int.le_refl, a1, a4]
          exact hK () _ _ ⟨fun _ => rfl, by omega, by omega⟩ (Wk.slots' (by rw [a1]) (by simp [wkS, Ch.get]))
      · simp only [go_sem, Nat.reduceAdd, Nat.reduceSub, Nat.reduceMul, Nat.reduceEqDiff, Nat.reduceLeDiff, Nat.reduceLT, ↓reduceIte, Int.reduceToNat, reduceCtorEq, Int.cast_ofNat_Int, Int.reduceLT, Int.reduceLE, Int.reduceGT, Int.reduceGE, Int.reduceEq, Int.reduceNe, Int.reduceNeg, Int.reduceAdd, Int.reduceSub, Int.le_refl, a1, a2]
        exact hbd (by omega) _
    · rcases Decidable.em (left < 0) with a3 | a3
      · simp only [go_sem, Nat.reduceAdd, Nat.reduceSub, Nat.reduceMul, Nat.reduceEqDiff, Nat.reduceLeDiff, Nat.reduceLT, ↓reduceIte, Int.reduceToNat, reduceCtorEq, Int.cast_ofNat_Int, Int.reduceLT, Int.reduceLE, Int.reduceGT, Int.reduceGE, Int.reduceEq, Int.reduceNe, Int.reduceNeg, Int.reduceAdd, Int.reduceSub, Int.le_refl, a1, a3]
        exact hbd (by omega) _
      · rcases Decidable.em (s.quantum < left) with a4 | a4
        · simp only [go_sem, Nat.reduceAdd, Nat.reduceSub, Nat.reduceMul, Nat.reduceEqDiff, Nat.reduceLeDiff, Nat.reduceLT, ↓reduceIte, Int.reduceToNat, reduceCtorEq, Int.cast_ofNat_Int, Int.reduceLT, Int.reduceLE, Int.reduceGT, Int.reduceGE, Int.reduceEq, Int.reduceNe, Int.reduceNeg, Int.reduceAdd, Int.reduceSub, Int.le_refl, a1, a3, a4]
          exact hbd (by omega) _
        · simp only [go_sem, Nat.reduceAdd, Nat.reduceSub, Nat.reduceMul, Nat.reduceEqDiff, Nat.reduceLeDiff, Nat.reduceLT, ↓reduceIte, Int.reduceToNat, reduceCtorEq, Int.cast_ofNat_Int, Int.reduceLT, Int.reduceLE, Int.reduceGT, Int.reduceGE, Int.reduceEq, Int.reduceNe, Int.reduceNeg, Int.reduceAdd, Int.reduceSub, Int.le_refl, a1, a3, a4]
          exact hK () _ _ ⟨fun h => absurd h a1, by omega, by omega⟩ (Wk.slots (by simp [wkS, Ch.get]))
  simp only [go_sem, Nat.reduceAdd, Nat.reduceSub, Nat.reduceMul, Nat.reduceEqDiff, Nat.reduceLeDiff, Nat.reduceLT, ↓reduceIte, Int.reduceToNat, reduceCtorEq, Int.cast_ofNat_Int, Int.reduceLT, Int.reduceLE, Int.reduceGT, Int.reduceGE, Int.reduceEq, Int.reduceNe, Int.reduceNeg, Int.reduceAdd, Int.reduceSub, Int.le_refl]
  refine seq_cut (fun _ : Unit => (((Ch.nil.put 1 (iv c)).put 2 (.ptr 0 0 0)).put 5 (.ptr 1 0 0)))
    (fun _ => [.rows 3 [[.view false 3 (s.cpus.map Q.row), .view false 3 (s.thr.map T.row), iv s.quantum]], .rows 3 [[iv q.run, iv q.left, .view false 1 (q.ready.map r1)]]])
    (fun _ => q.run = -1 ∨ s.is q.run c 2 = true) (by kernel_rfl) (fun K hK => ?_) (fun _ hr => ?_)
  · simp only [go_sem, Nat.reduceAdd, Nat.reduceSub, Nat.reduceMul, Nat.reduceEqDiff, Nat.reduceLeDiff, Nat.reduceLT, ↓reduceIte, Int.reduceToNat, reduceCtorEq, Int.cast_ofNat_Int, Int.reduceLT, Int.reduceLE, Int.reduceGT, Int.reduceGE, Int.reduceEq, Int.reduceNe, Int.reduceNeg, Int.reduceAdd, Int.reduceSub, Int.le_refl]
    have hbd : ¬ (q.run = -1 ∨ s.is q.run c 2 = true) → ∀ H, Up 0 post (.ret (.bool false)) H := fun h H => bad H fun g => h g.2.1
    rcases Decidable.em (q.run = -1) with a1 | a1
    · simp only [go_sem, Nat.reduceAdd, Nat.reduceSub, Nat.reduceMul, Nat.reduceEqDiff, Nat.reduceLeDiff, Nat.reduceLT, ↓reduceIte, Int.reduceToNat, reduceCtorEq, Int.cast_ofNat_Int, Int.reduceLT, Int.reduceLE, Int.reduceGT, Int.reduceGE, Int.reduceEq, Int.reduceNe, Int.reduceNeg, Int.reduceAdd, Int.reduceSub, Int.le_refl, a1]
      exact hK () _ _ (.inl a1) (Wk.slots' (by rw [a1]) (by simp [wkS, Ch.get]))
    simp only [go_sem, Nat.reduceAdd, Nat.reduceSub, Nat.reduceMul, Nat.reduceEqDiff, Nat.reduceLeDiff, Nat.reduceLT, ↓reduceIte, Int.reduceToNat, reduceCtorEq, Int.cast_ofNat_Int, Int.reduceLT, Int.reduceLE, Int.reduceGT, Int.reduceGE, Int.reduceEq, Int.reduceNe, Int.reduceNeg, Int.reduceAdd, Int.reduceSub, Int.le_refl, a1]
    refine rK_use (enters_of Try.func94 rfl (by decide)) (ACalls.pure_use (thread_c s q.run) rfl rfl) ?_
    rcases Decidable.em (0 ≤ q.run ∧ q.run < s.thr.length) with a2 | a2
    · have a3 : q.run.toNat < s.thr.length := by omega
      obtain ⟨t, ht⟩ := at_lt a3
      have his : ∀ st, s.is q.run c st = (decide (t.cpu = c) && decide (t.st = st)) := fun st => by simp [S.is, ht, a2.1]
      rw [decide_eq_true a2]
      rcases Decidable.em (t.st = 2) with a4 | a4
      · rcases Decidable.em (t.cpu = c) with a5 | a5
        · simp only [go_sem, Nat.reduceAdd, Nat.reduceSub, Nat.reduceMul, Nat.reduceEqDiff, Nat.reduceLeDiff, Nat.reduceLT, ↓reduceIte, Int.reduceToNat, reduceCtorEq, Int.cast_ofNat_Int, Int.reduceLT, Int.reduceLE, Int.reduceGT, Int.reduceGE, Int.reduceEq, Int.reduceNe, Int.reduceNeg, Int.reduceAdd, Int.reduceSub, Int.le_refl, List.length_map, List.getElem?_map, a2.1, a2.2, a3, ht, T.row, a4, a5, true_and]
          exact hK () _ _ (.inr (by rw [his]; simp [a4, a5])) (Wk.slots (by simp [wkS, Ch.get]))
        · simp only [go_sem, Nat.reduceAdd, Nat.reduceSub, Nat.reduceMul, Nat.reduceEqDiff, Nat.reduceLeDiff, Nat.reduceLT, ↓reduceIte, Int.reduceToNat, reduceCtorEq, Int.cast_ofNat_Int, Int.reduceLT, Int.reduceLE, Int.reduceGT, Int.reduceGE, Int.reduceEq, Int.reduceNe, Int.reduceNeg, Int.reduceAdd, Int.reduceSub, Int.le_refl, List.length_map, List.getElem?_map, a2.1, a2.2, a3, ht, T.row, a4, a5, true_and]
          exact hbd (by rw [his]; simp [a1, a5]) _
      · simp only [go_sem, Nat.reduceAdd, Nat.reduceSub, Nat.reduceMul, Nat.reduceEqDiff, Nat.reduceLeDiff, Nat.reduceLT, ↓reduceIte, Int.reduceToNat, reduceCtorEq, Int.cast_ofNat_Int, Int.reduceLT, Int.reduceLE, Int.reduceGT, Int.reduceGE, Int.reduceEq, Int.reduceNe, Int.reduceNeg, Int.reduceAdd, Int.reduceSub, Int.le_refl, List.length_map, List.getElem?_map, a2.1, a2.2, a3, ht, T.row, a4, true_and]
        exact hbd (by rw [his]; simp [a1, a4]) _
    · rw [decide_eq_false a2]
      simp only [go_sem, Nat.reduceAdd, Nat.reduceSub, Nat.reduceMul, Nat.reduceEqDiff, Nat.reduceLeDiff, Nat.reduceLT, ↓reduceIte, Int.reduceToNat, reduceCtorEq, Int.cast_ofNat_Int, Int.reduceLT, Int.reduceLE, Int.reduceGT, Int.reduceGE, Int.reduceEq, Int.reduceNe, Int.reduceNeg, Int.reduceAdd, Int.reduceSub, Int.le_refl]
      exact hbd (fun h => by
        rcases h with h | h
        · exact a1 h
        · exact a2 (S.is_lt h)) _
  simp only [go_sem, Nat.reduceAdd, Nat.reduceSub, Nat.reduceMul, Nat.reduceEqDiff, Nat.reduceLeDiff, Nat.reduceLT, ↓reduceIte, Int.reduceToNat, reduceCtorEq, Int.cast_ofNat_Int, Int.reduceLT, Int.reduceLE, Int.reduceGT, Int.reduceGE, Int.reduceEq, Int.reduceNe, Int.reduceNeg, Int.reduceAdd, Int.reduceSub, Int.le_refl]
  refine loop_fam (fun i : Nat => ((((Ch.nil.put 1 (iv c)).put 2 (.ptr 0 0 0)).put 5 (.ptr 1 0 0)).put 6 (iv i))) (fun _ => [.rows 3 [[.view false 3 (s.cpus.map Q.row), .view false 3 (s.thr.map T.row), iv s.quantum]], .rows 3 [[iv q.run, iv q.left, .view false 1 (q.ready.map r1)]]])
    (fun i => q.ready.length - i) (fun i => i ≤ q.ready.length ∧ ∀ j, j < i → s.Item c q.ready j) 0 (by kernel_rfl) ⟨Nat.zero_le _, fun j hj => absurd hj (Nat.not_lt_zero _)⟩ (Wk.slots' rfl (by simp [wkS, Ch.get])) ?_
  rintro i ⟨hi, hit⟩ K hK
  simp only [go_sem, Nat.reduceAdd, Nat.reduceSub, Nat.reduceMul, Nat.reduceEqDiff, Nat.reduceLeDiff, Nat.reduceLT, ↓reduceIte, Int.reduceToNat, reduceCtorEq, Int.cast_ofNat_Int, Int.reduceLT, Int.reduceLE, Int.reduceGT, Int.reduceGE, Int.reduceEq, Int.reduceNe, Int.reduceNeg, Int.reduceAdd, Int.reduceSub, Int.le_refl, List.length_map]
  refine condD_dec (fun hg => ?_) (fun hg => ?_)
  rotate_left
  · simp only [go_sem, Nat.reduceAdd, Nat.reduceSub, Nat.reduceMul, Nat.reduceEqDiff, Nat.reduceLeDiff, Nat.reduceLT, ↓reduceIte, Int.reduceToNat, reduceCtorEq, Int.cast_ofNat_Int, Int.reduceLT, Int.reduceLE, Int.reduceGT, Int.reduceGE, Int.reduceEq, Int.reduceNe, Int.reduceNeg, Int.reduceAdd, Int.reduceSub, Int.le_refl]
    exact good _ ⟨hh, hr, fun k hk => hit k (by omega)⟩
  have hg' : i < q.ready.length := by omega
  obtain ⟨y, hy⟩ := at_lt hg'
  have hbd : ¬ s.Item c q.ready i → ∀ H, Up 0 post (.ret (.bool false)) H := fun h H => bad H fun g => h (g.2.2 i hg')
  have e1 : iw .i64 ((i : Int) + 1) = ((i + 1 : Nat) : Int) := by rw [iw64] <;> omega
  simp only [go_sem, Nat.reduceAdd, Nat.reduceSub, Nat.reduceMul, Nat.reduceEqDiff, Nat.reduceLeDiff, Nat.reduceLT, ↓reduceIte, Int.reduceToNat, reduceCtorEq, Int.cast_ofNat_Int, Int.reduceLT, Int.reduceLE, Int.reduceGT, Int.reduceGE, Int.reduceEq, Int.reduceNe, Int.reduceNeg, Int.reduceAdd, Int.reduceSub, Int.le_refl, List.length_map, List.getElem?_map, hy, hg, hg', Int.natCast_nonneg]
  refine rK_use (enters_of Try.func94 rfl (by decide)) (ACalls.pure_use (thread_c s y) rfl rfl) ?_
  rcases Decidable.em (0 ≤ y ∧ y < s.thr.length) with a2 | a2
  rotate_left
  · rw [decide_eq_false a2]
    simp only [go_sem, Nat.reduceAdd, Nat.reduceSub, Nat.reduceMul, Nat.reduceEqDiff, Nat.reduceLeDiff, Nat.reduceLT, ↓reduceIte, Int.reduceToNat, reduceCtorEq, Int.cast_ofNat_Int, Int.reduceLT, Int.reduceLE, Int.reduceGT, Int.reduceGE, Int.reduceEq, Int.reduceNe, Int.reduceNeg, Int.reduceAdd, Int.reduceSub, Int.le_refl]
    exact hbd (fun h => a2 (S.is_lt (h y hy).1.1)) _
  have a3 : y.toNat < s.thr.length := by omega
  obtain ⟨t, ht⟩ := at_lt a3
  have his : ∀ st, s.is y c st = (decide (t.cpu = c) && decide (t.st = st)) := fun st => by simp [S.is, ht, a2.1]
  have hpy : s.pri y = t.pri := by simp [S.pri, ht]
  rw [decide_eq_true a2]
  rcases Decidable.em (t.st = 1) with a4 | a4
  rotate_left
  · simp only [go_sem, Nat.reduceAdd, Nat.reduceSub, Nat.reduceMul, Nat.reduceEqDiff, Nat.reduceLeDiff, Nat.reduceLT, ↓reduceIte, Int.reduceToNat, reduceCtorEq, Int.cast_ofNat_Int, Int.reduceLT, Int.reduceLE, Int.reduceGT, Int.reduceGE, Int.reduceEq, Int.reduceNe, Int.reduceNeg, Int.reduceAdd, Int.reduceSub, Int.le_refl, List.length_map, List.getElem?_map, a2.1, a2.2, a3, ht, T.row, a4, true_and]
    exact hbd (fun h => by have := (h y hy).1.1; rw [his] at this; simp [a4] at this) _
  rcases Decidable.em (t.cpu = c) with a5 | a5
  rotate_left
  · simp only [go_sem, Nat.reduceAdd, Nat.reduceSub, Nat.reduceMul, Nat.reduceEqDiff, Nat.reduceLeDiff, Nat.reduceLT, ↓reduceIte, Int.reduceToNat, reduceCtorEq, Int.cast_ofNat_Int, Int.reduceLT, Int.reduceLE, Int.reduceGT, Int.reduceGE, Int.reduceEq, Int.reduceNe, Int.reduceNeg, Int.reduceAdd, Int.reduceSub, Int.le_refl, List.length_map, List.getElem?_map, a2.1, a2.2, a3, ht, T.row, a4, a5, true_and]
    exact hbd (fun h => by have := (h y hy).1.1; rw [his] at this; simp [a5] at this) _
  simp only [go_sem, Nat.reduceAdd, Nat.reduceSub, Nat.reduceMul, Nat.reduceEqDiff, Nat.reduceLeDiff, Nat.reduceLT, ↓reduceIte, Int.reduceToNat, reduceCtorEq, Int.cast_ofNat_Int, Int.reduceLT, Int.reduceLE, Int.reduceGT, Int.reduceGE, Int.reduceEq, Int.reduceNe, Int.reduceNeg, Int.reduceAdd, Int.reduceSub, Int.le_refl, List.length_map, List.getElem?_map, a2.1, a2.2, a3, ht, T.row, a4, a5, true_and]
  refine rK_use (enters_of Try.func71 rfl (by decide)) (ACalls.pure_use (count_c q.ready y false (by omega)) rfl rfl) ?_
  rcases Decidable.em (q.ready.count y = 1) with a6 | a6
  rotate_left
  · have a7 : ¬ ((q.ready.count y : Int) = 1) := by omega
    simp only [go_sem, Nat.reduceAdd, Nat.reduceSub, Nat.reduceMul, Nat.reduceEqDiff, Nat.reduceLeDiff, Nat.reduceLT, ↓reduceIte, Int.reduceToNat, reduceCtorEq, Int.cast_ofNat_Int, Int.reduceLT, Int.reduceLE, Int.reduceGT, Int.reduceGE, Int.reduceEq, Int.reduceNe, Int.reduceNeg, Int.reduceAdd, Int.reduceSub, Int.le_refl, a7]
    exact hbd (fun h => a6 (h y hy).1.2) _
  have a7 : ((q.ready.count y : Int) = 1) := by omega
  have h1 : s.is y c 1 = true ∧ q.ready.count y = 1 := ⟨by rw [his]; simp [a4, a5], a6⟩
  rcases Decidable.em (i = 0) with rfl | hi0
  · have e0 : ¬ ((0 : Int) < ((0 : Nat) : Int)) := by decide
    simp only [go_sem, Nat.reduceAdd, Nat.reduceSub, Nat.reduceMul, Nat.reduceEqDiff, Nat.reduceLeDiff, Nat.reduceLT, ↓reduceIte, Int.reduceToNat, reduceCtorEq, Int.cast_ofNat_Int, Int.reduceLT, Int.reduceLE, Int.reduceGT, Int.reduceGE, Int.reduceEq, Int.reduceNe, Int.reduceNeg, Int.reduceAdd, Int.reduceSub, Int.le_refl, a7]
    refine draw [.qu 0 0, .qu 0 0, .qu 0 0, .qu 0 0, .qu 0 0, .qu 0 0, .qu 0 0, .qu 0 0, .qu 0 0, .qu 0 0, .qu 0 0, .qu 0 0, .qu 0 0, .qu 0 0, .qu 0 0, .qu 0 0, .qu 0 0, .qu 0 0, .qu 0 0, .qu 0 0, .qu 0 0, .qu 0 0] (by kernel_rfl) (by kernel_rfl) ?_
    simp only [go_sem, Nat.reduceAdd, Nat.reduceSub, Nat.reduceMul, Nat.reduceEqDiff, Nat.reduceLeDiff, Nat.reduceLT, ↓reduceIte, Int.reduceToNat, reduceCtorEq, Int.cast_ofNat_Int, Int.reduceLT, Int.reduceLE, Int.reduceGT, Int.reduceGE, Int.reduceEq, Int.reduceNe, Int.reduceNeg, Int.reduceAdd, Int.reduceSub, Int.le_refl, e0, e1, Int.lt_irrefl, Int.ofNat_zero]
    exact hK (0 + 1) _ _ ⟨hg', fun j hj z hz => by
      obtain rfl : j = 0 := by omega
      rw [hy] at hz; cases hz
      exact ⟨h1, fun h => absurd h (Nat.lt_irrefl _)⟩⟩ (by omega) (Wk.slots' rfl (by simp [wkS, Ch.get]; rw [iw64] <;> omega))
  · have e0 : (0 : Int) < (i : Int) := by omega
    have e2 : iw .i64 ((i : Int) - 1) = ((i - 1 : Nat) : Int) := by rw [iw64] <;> omega
    have g1 : i - 1 < q.ready.length := by omega
    have g2 : ((i - 1 : Nat) : Int) < q.ready.length := by omega
    obtain ⟨z, hz⟩ := at_lt g1
    have hz1 := hit (i - 1) (by omega) z hz
    have hzl := S.is_lt hz1.1.1
    have g3 : z.toNat < s.thr.length := by omega
    obtain ⟨tz, htz⟩ := at_lt g3
    have hpz : s.pri z = tz.pri := by simp [S.pri, htz]
    simp only [go_sem, Nat.reduceAdd, Nat.reduceSub, Nat.reduceMul, Nat.reduceEqDiff, Nat.reduceLeDiff, Nat.reduceLT, ↓reduceIte, Int.reduceToNat, reduceCtorEq, Int.cast_ofNat_Int, Int.reduceLT, Int.reduceLE, Int.reduceGT, Int.reduceGE, Int.reduceEq, Int.reduceNe, Int.reduceNeg, Int.reduceAdd, Int.reduceSub, Int.le_refl, a7]
    refine draw [.qu 0 0, .qu 0 0, .qu 0 0, .qu 0 0, .qu 0 0, .qu 0 0, .qu 0 0, .qu 0 0, .qu 0 0, .qu 0 0, .qu 0 0, .qu 0 0, .qu 0 0, .qu 0 0, .qu 0 0, .qu 0 0, .qu 0 0, .qu 0 0, .qu 0 0, .qu 0 0, .qu 0 0, .qu 0 0] (by kernel_rfl) (by kernel_rfl) ?_
    simp only [go_sem, Nat.reduceAdd, Nat.reduceSub, Nat.reduceMul, Nat.reduceEqDiff, Nat.reduceLeDiff, Nat.reduceLT, ↓reduceIte, Int.reduceToNat, reduceCtorEq, Int.cast_ofNat_Int, Int.reduceLT, Int.reduceLE, Int.reduceGT, Int.reduceGE, Int.reduceEq, Int.reduceNe, Int.reduceNeg, Int.reduceAdd, Int.reduceSub, Int.le_refl, e0, e2, List.length_map, List.getElem?_map, hz, g1, g2, Int.natCast_nonneg, hzl.1, hzl.2, g3, htz, T.row, a2.1, a2.2, a3, ht, true_and]
    refine condD_dec (fun hp => ?_) (fun hp => ?_)
    · simp only [go_sem, Nat.reduceAdd, Nat.reduceSub, Nat.reduceMul, Nat.reduceEqDiff, Nat.reduceLeDiff, Nat.reduceLT, ↓reduceIte, Int.reduceToNat, reduceCtorEq, Int.cast_ofNat_Int, Int.reduceLT, Int.reduceLE, Int.reduceGT, Int.reduceGE, Int.reduceEq, Int.reduceNe, Int.reduceNeg, Int.reduceAdd, Int.reduceSub, Int.le_refl]
      exact hbd (fun h => by have := (h y hy).2 (by omega) z hz; omega) _
    · simp only [go_sem, Nat.reduceAdd, Nat.reduceSub, Nat.reduceMul, Nat.reduceEqDiff, Nat.reduceLeDiff, Nat.reduceLT, ↓reduceIte, Int.reduceToNat, reduceCtorEq, Int.cast_ofNat_Int, Int.reduceLT, Int.reduceLE, Int.reduceGT, Int.reduceGE, Int.reduceEq, Int.reduceNe, Int.reduceNeg, Int.reduceAdd, Int.reduceSub, Int.le_refl, e1]
      exact hK (i + 1) _ _ ⟨hg', fun j hj => by
        rcases Nat.lt_or_ge j i with h | h
        · exact hit j h
        · obtain rfl : j = i := by omega
          intro z' hz'
          rw [hy] at hz'; cases hz'
          refine ⟨h1, fun _ z' hz' => ?_⟩
          rw [hz] at hz'; cases hz'
          omega⟩ (by omega) (Wk.slots' rfl (by simp [wkS, Ch.get]))
/-! ### the check -/
structure S.Ref (s : S) : Prop where
  bd : 1 ≤ s.cpus.length ∧ s.cpus.length ≤ 4 ∧ s.thr.length ≤ 16 ∧ 1 ≤ s.quantum ∧ s.quantum ≤ 20
  th : ∀ (i : Nat), i < s.thr.length → ∀ t, s.thr[i]? = some t → 0 ≤ t.pri ∧ t.pri ≤ 7 ∧ 0 ≤ t.cpu ∧ t.cpu < s.cpus.length ∧ 1 ≤ t.st ∧ t.st ≤ 4
  cp : ∀ (c : Nat), c < s.cpus.length → ∀ q, s.cpus[c]? = some q → q.ready.length ≤ 16 ∧ s.Proc c q
  pl : ∀ (i : Nat), i < s.thr.length → ∀ t, s.thr[i]? = some t → ∀ q, s.cpus[t.cpu.toNat]? = some q → (t.st = 1 → q.ready.count (i : Int) = 1) ∧ (t.st = 2 → q.run = i)
theorem adj_pair (s : S) : ∀ (l : List Int), (∀ (k : Nat) y z, l[k]? = some z → l[k + 1]? = some y → s.pri y ≤ s.pri z) → l.Pairwise (fun x y => s.pri y ≤ s.pri x)
  | [], _ => .nil
  | [x], _ => by simp
  | x :: y :: l, h => by
    have ih := adj_pair s (y :: l) (fun k a b ha hb => h (k + 1) a b (by simpa using ha) (by simpa using hb))
    have h0 := h 0 y x rfl rfl
    rw [List.pairwise_cons]
    refine ⟨fun z hz => ?_, ih⟩
    rcases List.mem_cons.1 hz with rfl | hz
    · exact h0
    · rw [List.pairwise_cons] at ih
      have := ih.1 z hz
      omega
theorem pair_adj {s : S} {l : List Int} (h : l.Pairwise (fun x y => s.pri y ≤ s.pri x)) {k : Nat} {y z : Int} (hz : l[k]? = some z) (hy : l[k + 1]? = some y) : s.pri y ≤ s.pri z := by
  obtain ⟨h1, e1⟩ := List.getElem?_eq_some_iff.1 hz
  obtain ⟨h2, e2⟩ := List.getElem?_eq_some_iff.1 hy
  have := (List.pairwise_iff_getElem.1 h) k (k + 1) h1 h2 (by omega)
  rw [e1, e2] at this
  exact this
theorem count_one {l : List Int} {x : Int} (h : l.Nodup) (hx : x ∈ l) : l.count x = 1 := by
  have h1 := List.nodup_iff_count.1 h x
  have h2 := List.count_pos_iff.2 hx
  omega
theorem ref_iff (s : S) : s.Ref ↔ s.Ok := by
  constructor
  · intro h
    obtain ⟨b1, b2, b3, b4, b5⟩ := h.bd
    have hth : ∀ t ∈ s.thr, 0 ≤ t.pri ∧ t.pri ≤ 7 ∧ 0 ≤ t.cpu ∧ t.cpu < s.cpus.length ∧ 1 ≤ t.st ∧ t.st ≤ 4 := fun t ht => by
      obtain ⟨i, hi⟩ := List.getElem?_of_mem ht
      exact h.th i (List.getElem?_eq_some_iff.1 hi).1 t hi
    have hcp : ∀ (c : Nat) q, s.cpus[c]? = some q → q.ready.length ≤ 16 ∧ s.Proc c q := fun c q hq => h.cp c (List.getElem?_eq_some_iff.1 hq).1 q hq
    have hit : ∀ (c : Nat) q, s.cpus[c]? = some q → ∀ (k : Nat) y, q.ready[k]? = some y → (s.is y c 1 = true ∧ q.ready.count y = 1) ∧ (0 < k → ∀ z, q.ready[k - 1]? = some z → s.pri y ≤ s.pri z) := fun c q hq k y hy => (hcp c q hq).2.2.2 k (List.getElem?_eq_some_iff.1 hy).1 y hy
    refine ⟨b1, b2, b3, b4, b5, hth, fun c q hq => ?_, fun c q hq => ⟨fun x hx => ?_, ?_, ?_⟩, fun i t ht hst => ?_, fun i t ht hst => ?_⟩
    · obtain ⟨_, g1, g2, _⟩ := hcp c q hq
      rcases Decidable.em (q.run = -1) with e | e
      · exact .inl ⟨e, g1.1 e⟩
      · exact .inr ⟨g2.resolve_left e, g1.2⟩
    · obtain ⟨k, hk⟩ := List.getElem?_of_mem hx
      exact (hit c q hq k x hk).1.1
    · rw [List.nodup_iff_count]
      intro a
      by_cases ha : a ∈ q.ready
      · obtain ⟨k, hk⟩ := List.getElem?_of_mem ha
        exact Nat.le_of_eq (hit c q hq k a hk).1.2
      · rw [List.count_eq_zero_of_not_mem ha]; omega
    · exact adj_pair s _ fun k y z hz hy => (hit c q hq (k + 1) y hy).2 (by omega) z (by simpa using hz)
    · have hb := hth t (List.mem_of_getElem? ht)
      obtain ⟨q, hq⟩ : ∃ q, s.cpus[t.cpu.toNat]? = some q := at_lt (by omega)
      have := (h.pl i (List.getElem?_eq_some_iff.1 ht).1 t ht q hq).1 hst
      exact ⟨q, hq, List.count_pos_iff.1 (by omega)⟩
    · have hb := hth t (List.mem_of_getElem? ht)
      obtain ⟨q, hq⟩ : ∃ q, s.cpus[t.cpu.toNat]? = some q := at_lt (by omega)
      exact ⟨q, hq, (h.pl i (List.getElem?_eq_some_iff.1 ht).1 t ht q hq).2 hst⟩
  · intro h
    have hq1 := h.q1
    refine ⟨⟨h.c1, h.c4, h.t16, h.q1, h.q20⟩, fun i _ t ht => h.thr t (List.mem_of_getElem? ht), fun c _ q hq => ?_, fun i _ t ht q hq => ⟨fun hst => ?_, fun hst => ?_⟩⟩
    · obtain ⟨r1', r2', r3'⟩ := h.rdy c q hq
      have hr := h.run c q hq
      have hlen := pigeon s.thr.length q.ready r2' fun y hy => S.is_lt (r1' y hy)
      have := h.t16
      refine ⟨by omega, ⟨?_, ?_, ?_⟩, ?_, fun k hk y hy => ⟨⟨r1' y (List.mem_of_getElem? hy), count_one r2' (List.mem_of_getElem? hy)⟩, fun h0 z hz => ?_⟩⟩
      · intro e
        rcases hr with g | g
        · exact g.2
        · exact absurd e (run_ne g.1)
      · rcases hr with g | g
        · omega
        · exact g.2.1
      · rcases hr with g | g
        · omega
        · exact g.2.2
      · exact hr.imp (fun g => g.1) (fun g => g.1)
      · exact pair_adj r3' hz (by rw [show k - 1 + 1 = k by omega]; exact hy)
    · obtain ⟨q', hq', hm⟩ := h.allr i t ht hst
      rw [hq] at hq'; cases hq'
      exact count_one (h.rdy _ q hq).2.1 hm
    · obtain ⟨q', hq', hm⟩ := h.allrun i t ht hst
      rw [hq] at hq'; cases hq'
      exact hm
theorem Check_r (s : S) : ACalls Try.prog 30 [s.av] [] (fun o H => o = .ret (iv (if s.valid = true then 0 else 50)) ∧ H = []) := by
  refine ACalls.up ?_
  refine ACalls.intro (cs := [3]) (n := 135) Try.func30 rfl rfl rfl (by kernel_rfl) rfl ?_
  generalize hpost : (fun (o : Out) (H : Heap) => o = Out.ret (iv (if s.valid = true then 0 else 50)) ∧ H = []) = post
  have bad : ∀ H, ¬ s.Ref → Up 0 post (.ret (iv 50)) H := fun H h => fin_i (by
    rw [← hpost, if_neg fun hv => h ((ref_iff s).2 ((valid_iff s).1 hv))]; exact ⟨rfl, rfl⟩) H
  have good : ∀ H, s.Ref → Up 0 post (.ret (iv 0)) H := fun H h => fin_i (by
    rw [← hpost, if_pos ((valid_iff s).2 ((ref_iff s).1 h))]; exact ⟨rfl, rfl⟩) H
  simp only [go_sem, Nat.reduceAdd, Nat.reduceSub, Nat.reduceMul, Nat.reduceEqDiff, Nat.reduceLeDiff, Nat.reduceLT, ↓reduceIte, Int.reduceToNat, reduceCtorEq, Int.cast_ofNat_Int, Int.reduceLT, Int.reduceLE, Int.reduceGT, Int.reduceGE, Int.reduceEq, Int.reduceNe, Int.reduceNeg, Int.reduceAdd, Int.reduceSub, Int.le_refl, S.av]
  refine seq_cut (fun _ : Unit => (Ch.nil.put 1 (.ptr 0 0 0))) (fun _ => [.rows 3 [[.view false 3 (s.cpus.map Q.row), .view false 3 (s.thr.map T.row), iv s.quantum]]])
    (fun _ => 1 ≤ s.cpus.length ∧ s.cpus.length ≤ 4 ∧ s.thr.length ≤ 16 ∧ 1 ≤ s.quantum ∧ s.quantum ≤ 20) (by kernel_rfl) (fun K hK => ?_) (fun _ hbd => ?_)
  · simp only [go_sem, Nat.reduceAdd, Nat.reduceSub, Nat.reduceMul, Nat.reduceEqDiff, Nat.reduceLeDiff, Nat.reduceLT, ↓reduceIte, Int.reduceToNat, reduceCtorEq, Int.cast_ofNat_Int, Int.reduceLT, Int.reduceLE, Int.reduceGT, Int.reduceGE, Int.reduceEq, Int.reduceNe, Int.reduceNeg, Int.reduceAdd, Int.reduceSub, Int.le_refl, List.length_map]
    rcases Decidable.em ((s.cpus.length : Int) < 1) with a1 | a1
    · simp only [go_sem, Nat.reduceAdd, Nat.reduceSub, Nat.reduceMul, Nat.reduceEqDiff, Nat.reduceLeDiff, Nat.reduceLT, ↓reduceIte, Int.reduceToNat, reduceCtorEq, Int.cast_ofNat_Int, Int.reduceLT, Int.reduceLE, Int.reduceGT, Int.reduceGE, Int.reduceEq, Int.reduceNe, Int.reduceNeg, Int.reduceAdd, Int.reduceSub, Int.le_refl, a1]
      exact bad _ (fun h => by have := h.bd; omega)
    rcases Decidable.em ((4 : Int) < s.cpus.length) with a2 | a2
    · simp only [go_sem, Nat.reduceAdd, Nat.reduceSub, Nat.reduceMul, Nat.reduceEqDiff, Nat.reduceLeDiff, Nat.reduceLT, ↓reduceIte, Int.reduceToNat, reduceCtorEq, Int.cast_ofNat_Int, Int.reduceLT, Int.reduceLE, Int.reduceGT, Int.reduceGE, Int.reduceEq, Int.reduceNe, Int.reduceNeg, Int.reduceAdd, Int.reduceSub, Int.le_refl, a1, a2, List.length_map]
      exact bad _ (fun h => by have := h.bd; omega)
    rcases Decidable.em ((16 : Int) < s.thr.length) with a3 | a3
    · simp only [go_sem, Nat.reduceAdd, Nat.reduceSub, Nat.reduceMul, Nat.reduceEqDiff, Nat.reduceLeDiff, Nat.reduceLT, ↓reduceIte, Int.reduceToNat, reduceCtorEq, Int.cast_ofNat_Int, Int.reduceLT, Int.reduceLE, Int.reduceGT, Int.reduceGE, Int.reduceEq, Int.reduceNe, Int.reduceNeg, Int.reduceAdd, Int.reduceSub, Int.le_refl, a1, a2, a3, List.length_map]
      exact bad _ (fun h => by have := h.bd; omega)
    rcases Decidable.em (s.quantum < 1) with a4 | a4
    · simp only [go_sem, Nat.reduceAdd, Nat.reduceSub, Nat.reduceMul, Nat.reduceEqDiff, Nat.reduceLeDiff, Nat.reduceLT, ↓reduceIte, Int.reduceToNat, reduceCtorEq, Int.cast_ofNat_Int, Int.reduceLT, Int.reduceLE, Int.reduceGT, Int.reduceGE, Int.reduceEq, Int.reduceNe, Int.reduceNeg, Int.reduceAdd, Int.reduceSub, Int.le_refl, a1, a2, a3, a4, List.length_map]
      exact bad _ (fun h => by have := h.bd; omega)
    rcases Decidable.em (20 < s.quantum) with a5 | a5
    · simp only [go_sem, Nat.reduceAdd, Nat.reduceSub, Nat.reduceMul, Nat.reduceEqDiff, Nat.reduceLeDiff, Nat.reduceLT, ↓reduceIte, Int.reduceToNat, reduceCtorEq, Int.cast_ofNat_Int, Int.reduceLT, Int.reduceLE, Int.reduceGT, Int.reduceGE, Int.reduceEq, Int.reduceNe, Int.reduceNeg, Int.reduceAdd, Int.reduceSub, Int.le_refl, a1, a2, a3, a4, a5, List.length_map]
      exact bad _ (fun h => by have := h.bd; omega)
    simp only [go_sem, Nat.reduceAdd, Nat.reduceSub, Nat.reduceMul, Nat.reduceEqDiff, Nat.reduceLeDiff, Nat.reduceLT, ↓reduceIte, Int.reduceToNat, reduceCtorEq, Int.cast_ofNat_Int, Int.reduceLT, Int.reduceLE, Int.reduceGT, Int.reduceGE, Int.reduceEq, Int.reduceNe, Int.reduceNeg, Int.reduceAdd, Int.reduceSub, Int.le_refl, a1, a2, a3, a4, a5, List.length_map]
    exact hK () _ _ (by omega) (Wk.slots (by simp [wkS, Ch.get]))
  simp only [go_sem, Nat.reduceAdd, Nat.reduceSub, Nat.reduceMul, Nat.reduceEqDiff, Nat.reduceLeDiff, Nat.reduceLT, ↓reduceIte, Int.reduceToNat, reduceCtorEq, Int.cast_ofNat_Int, Int.reduceLT, Int.reduceLE, Int.reduceGT, Int.reduceGE, Int.reduceEq, Int.reduceNe, Int.reduceNeg, Int.reduceAdd, Int.reduceSub, Int.le_refl]
  refine loop_fam (fun i : Nat => ((Ch.nil.put 1 (.ptr 0 0 0)).put 3 (iv i))) (fun _ => [.rows 3 [[.view false 3 (s.cpus.map Q.row), .view false 3 (s.thr.map T.row), iv s.quantum]]])
    (fun i => s.thr.length - i) (fun i => i ≤ s.thr.length ∧ ∀ j, j < i → ∀ t, s.thr[j]? = some t → 0 ≤ t.pri ∧ t.pri ≤ 7 ∧ 0 ≤ t.cpu ∧ t.cpu < s.cpus.length ∧ 1 ≤ t.st ∧ t.st ≤ 4) 0 (by kernel_rfl) ⟨Nat.zero_le _, fun j hj => absurd hj (Nat.not_lt_zero _)⟩ (Wk.slots' rfl (by simp [wkS, Ch.get])) ?_
  rintro i ⟨hi, hth⟩ K hK
  simp only [go_sem, Nat.reduceAdd, Nat.reduceSub, Nat.reduceMul, Nat.reduceEqDiff, Nat.reduceLeDiff, Nat.reduceLT, ↓reduceIte, Int.reduceToNat, reduceCtorEq, Int.cast_ofNat_Int, Int.reduceLT, Int.reduceLE, Int.reduceGT, Int.reduceGE, Int.reduceEq, Int.reduceNe, Int.reduceNeg, Int.reduceAdd, Int.reduceSub, Int.le_refl, List.length_map]
  refine condD_dec (fun hg => ?_) (fun hg => ?_)
  · have hg' : i < s.thr.length := by omega
    obtain ⟨t, ht⟩ := at_lt hg'
    have e1 : iw .i64 ((i : Int) + 1) = ((i + 1 : Nat) : Int) := by rw [iw64] <;> omega
    have hbd2 : ¬ (0 ≤ t.pri ∧ t.pri ≤ 7 ∧ 0 ≤ t.cpu ∧ t.cpu < s.cpus.length ∧ 1 ≤ t.st ∧ t.st ≤ 4) → ∀ H, Up 0 post (.ret (iv 50)) H := fun h H => bad H fun g => h (g.th i hg' t ht)
    simp only [go_sem, Nat.reduceAdd, Nat.reduceSub, Nat.reduceMul, Nat.reduceEqDiff, Nat.reduceLeDiff, Nat.reduceLT, ↓reduceIte, Int.reduceToNat, reduceCtorEq, Int.cast_ofNat_Int, Int.reduceLT, Int.reduceLE, Int.reduceGT, Int.reduceGE, Int.reduceEq, Int.reduceNe, Int.reduceNeg, Int.reduceAdd, Int.reduceSub, Int.le_refl, List.length_map, List.getElem?_map, ht, hg, hg', Int.natCast_nonneg, T.row]
    rcases Decidable.em (t.pri < 0) with a1 | a1
    · simp only [go_sem, Nat.reduceAdd, Nat.reduceSub, Nat.reduceMul, Nat.reduceEqDiff, Nat.reduceLeDiff, Nat.reduceLT, ↓reduceIte, Int.reduceToNat, reduceCtorEq, Int.cast_ofNat_Int, Int.reduceLT, Int.reduceLE, Int.reduceGT, Int.reduceGE, Int.reduceEq, Int.reduceNe, Int.reduceNeg, Int.reduceAdd, Int.reduceSub, Int.le_refl, a1]
      exact hbd2 (by omega) _
    rcases Decidable.em (7 < t.pri) with a2 | a2
    · simp only [go_sem, Nat.reduceAdd, Nat.reduceSub, Nat.reduceMul, Nat.reduceEqDiff, Nat.reduceLeDiff, Nat.reduceLT, ↓reduceIte, Int.reduceToNat, reduceCtorEq, Int.cast_ofNat_Int, Int.reduceLT, Int.reduceLE, Int.reduceGT, Int.reduceGE, Int.reduceEq, Int.reduceNe, Int.reduceNeg, Int.reduceAdd, Int.reduceSub, Int.le_refl, a1, a2]
      exact hbd2 (by omega) _
    simp only [go_sem, Nat.reduceAdd, Nat.reduceSub, Nat.reduceMul, Nat.reduceEqDiff, Nat.reduceLeDiff, Nat.reduceLT, ↓reduceIte, Int.reduceToNat, reduceCtorEq, Int.cast_ofNat_Int, Int.reduceLT, Int.reduceLE, Int.reduceGT, Int.reduceGE, Int.reduceEq, Int.reduceNe, Int.reduceNeg, Int.reduceAdd, Int.reduceSub, Int.le_refl, a1, a2]
    refine rK_use (enters_of Try.func69 rfl (by decide)) (ACalls.pure_use (cpu_r s t.cpu) rfl rfl) ?_
    rcases Decidable.em (0 ≤ t.cpu ∧ t.cpu < s.cpus.length) with a3 | a3
    rotate_left
    · rw [decide_eq_false a3]
      simp only [go_sem, Nat.reduceAdd, Nat.reduceSub, Nat.reduceMul, Nat.reduceEqDiff, Nat.reduceLeDiff, Nat.reduceLT, ↓reduceIte, Int.reduceToNat, reduceCtorEq, Int.cast_ofNat_Int, Int.reduceLT, Int.reduceLE, Int.reduceGT, Int.reduceGE, Int.reduceEq, Int.reduceNe, Int.reduceNeg, Int.reduceAdd, Int.reduceSub, Int.le_refl]
      exact hbd2 (by omega) _
    rw [decide_eq_true a3]
    rcases Decidable.em (t.st < 1) with a4 | a4
    · simp only [go_sem, Nat.reduceAdd, Nat.reduceSub, Nat.reduceMul, Nat.reduceEqDiff, Nat.reduceLeDiff, Nat.reduceLT, ↓reduceIte, Int.reduceToNat, reduceCtorEq, Int.cast_ofNat_Int, Int.reduceLT, Int.reduceLE, Int.reduceGT, Int.reduceGE, Int.reduceEq, Int.reduceNe, Int.reduceNeg, Int.reduceAdd, Int.reduceSub, Int.le_refl, a4]
      exact hbd2 (by omega) _
    rcases Decidable.em (4 < t.st) with a5 | a5
    · simp only [go_sem, Nat.reduceAdd, Nat.reduceSub, Nat.reduceMul, Nat.reduceEqDiff, Nat.reduceLeDiff, Nat.reduceLT, ↓reduceIte, Int.reduceToNat, reduceCtorEq, Int.cast_ofNat_Int, Int.reduceLT, Int.reduceLE, Int.reduceGT, Int.reduceGE, Int.reduceEq, Int.reduceNe, Int.reduceNeg, Int.reduceAdd, Int.reduceSub, Int.le_refl, a4, a5]
      exact hbd2 (by omega) _
    simp only [go_sem, Nat.reduceAdd, Nat.reduceSub, Nat.reduceMul, Nat.reduceEqDiff, Nat.reduceLeDiff, Nat.reduceLT, ↓reduceIte, Int.reduceToNat, reduceCtorEq, Int.cast_ofNat_Int, Int.reduceLT, Int.reduceLE, Int.reduceGT, Int.reduceGE, Int.reduceEq, Int.reduceNe, Int.reduceNeg, Int.reduceAdd, Int.reduceSub, Int.le_refl, a4, a5, e1]
    exact hK (i + 1) _ _ ⟨hg', fun j hj t' ht' => by
      rcases Nat.lt_or_ge j i with h | h
      · exact hth j h t' ht'
      · obtain rfl : j = i := by omega
        rw [ht] at ht'; cases ht'
        omega⟩ (by omega) (Wk.drop (m := 1) (by simp [wkS, Ch.get]) (by decide) (by simp) (by simp [chLt, AV.lt]) rfl (by simp [Blk.lt, ltL, AV.lt]))
  have hth' : ∀ (i : Nat), i < s.thr.length → ∀ t, s.thr[i]? = some t → 0 ≤ t.pri ∧ t.pri ≤ 7 ∧ 0 ≤ t.cpu ∧ t.cpu < s.cpus.length ∧ 1 ≤ t.st ∧ t.st ≤ 4 := fun j hj => hth j (by omega)
  clear hK
  simp only [go_sem, Nat.reduceAdd, Nat.reduceSub, Nat.reduceMul, Nat.reduceEqDiff, Nat.reduceLeDiff, Nat.reduceLT, ↓reduceIte, Int.reduceToNat, reduceCtorEq, Int.cast_ofNat_Int, Int.reduceLT, Int.reduceLE, Int.reduceGT, Int.reduceGE, Int.reduceEq, Int.reduceNe, Int.reduceNeg, Int.reduceAdd, Int.reduceSub, Int.le_refl]
  refine loop_fam (fun i : Nat => ((Ch.nil.put 1 (.ptr 0 0 0)).put 5 (iv i))) (fun _ => [.rows 3 [[.view false 3 (s.cpus.map Q.row), .view false 3 (s.thr.map T.row), iv s.quantum]]])
    (fun i => s.cpus.length - i) (fun i => i ≤ s.cpus.length ∧ ∀ j, j < i → ∀ q, s.cpus[j]? = some q → q.ready.length ≤ 16 ∧ s.Proc j q) 0 (by kernel_rfl) ⟨Nat.zero_le _, fun j hj => absurd hj (Nat.not_lt_zero _)⟩ (Wk.slots' rfl (by simp [wkS, Ch.get])) ?_
  rintro c ⟨hc, hcp⟩ K hK
  simp only [go_sem, Nat.reduceAdd, Nat.reduceSub, Nat.reduceMul, Nat.reduceEqDiff, Nat.reduceLeDiff, Nat.reduceLT, ↓reduceIte, Int.reduceToNat, reduceCtorEq, Int.cast_ofNat_Int, Int.reduceLT, Int.reduceLE, Int.reduceGT, Int.reduceGE, Int.reduceEq, Int.reduceNe, Int.reduceNeg, Int.reduceAdd, Int.reduceSub, Int.le_refl, List.length_map]
  refine condD_dec (fun hg => ?_) (fun hg => ?_)
  · have hg' : c < s.cpus.length := by omega
    obtain ⟨q, hq⟩ := at_lt hg'
    have e1 : iw .i64 ((c : Int) + 1) = ((c + 1 : Nat) : Int) := by rw [iw64] <;> omega
    have hbd2 : ¬ (q.ready.length ≤ 16 ∧ s.Proc c q) → ∀ H, Up 0 post (.ret (iv 50)) H := fun h H => bad H fun g => h (g.cp c hg' q hq)
    simp only [go_sem, Nat.reduceAdd, Nat.reduceSub, Nat.reduceMul, Nat.reduceEqDiff, Nat.reduceLeDiff, Nat.reduceLT, ↓reduceIte, Int.reduceToNat, reduceCtorEq, Int.cast_ofNat_Int, Int.reduceLT, Int.reduceLE, Int.reduceGT, Int.reduceGE, Int.reduceEq, Int.reduceNe, Int.reduceNeg, Int.reduceAdd, Int.reduceSub, Int.le_refl, List.length_map, List.getElem?_map, hq, hg, hg', Int.natCast_nonneg, Q.row]
    rcases Decidable.em ((16 : Int) < q.ready.length) with a1 | a1
    · simp only [go_sem, Nat.reduceAdd, Nat.reduceSub, Nat.reduceMul, Nat.reduceEqDiff, Nat.reduceLeDiff, Nat.reduceLT, ↓reduceIte, Int.reduceToNat, reduceCtorEq, Int.cast_ofNat_Int, Int.reduceLT, Int.reduceLE, Int.reduceGT, Int.reduceGE, Int.reduceEq, Int.reduceNe, Int.reduceNeg, Int.reduceAdd, Int.reduceSub, Int.le_refl, a1]
      exact hbd2 (by omega) _
    simp only [go_sem, Nat.reduceAdd, Nat.reduceSub, Nat.reduceMul, Nat.reduceEqDiff, Nat.reduceLeDiff, Nat.reduceLT, ↓reduceIte, Int.reduceToNat, reduceCtorEq, Int.cast_ofNat_Int, Int.reduceLT, Int.reduceLE, Int.reduceGT, Int.reduceGE, Int.reduceEq, Int.reduceNe, Int.reduceNeg, Int.reduceAdd, Int.reduceSub, Int.le_refl, a1]
    have hb : ∃ b : Bool, b = true ↔ s.Proc c q := by
      rcases Classical.em (s.Proc c q) with h | h
      · exact ⟨true, by simp [h]⟩
      · exact ⟨false, by simp [h]⟩
    obtain ⟨b, hb⟩ := hb
    refine rK_use (enters_of Try.func70 rfl (by decide)) (ACalls.pure_use (processor_c s c q hq (by omega) b hb) rfl rfl) ?_
    cases b
    · simp only [go_sem, Nat.reduceAdd, Nat.reduceSub, Nat.reduceMul, Nat.reduceEqDiff, Nat.reduceLeDiff, Nat.reduceLT, ↓reduceIte, Int.reduceToNat, reduceCtorEq, Int.cast_ofNat_Int, Int.reduceLT, Int.reduceLE, Int.reduceGT, Int.reduceGE, Int.reduceEq, Int.reduceNe, Int.reduceNeg, Int.reduceAdd, Int.reduceSub, Int.le_refl]
      exact hbd2 (fun h => by have := hb.2 h.2; cases this) _
    · simp only [go_sem, Nat.reduceAdd, Nat.reduceSub, Nat.reduceMul, Nat.reduceEqDiff, Nat.reduceLeDiff, Nat.reduceLT, ↓reduceIte, Int.reduceToNat, reduceCtorEq, Int.cast_ofNat_Int, Int.reduceLT, Int.reduceLE, Int.reduceGT, Int.reduceGE, Int.reduceEq, Int.reduceNe, Int.reduceNeg, Int.reduceAdd, Int.reduceSub, Int.le_refl, e1]
      exact hK (c + 1) _ _ ⟨hg', fun j hj q' hq' => by
        rcases Nat.lt_or_ge j c with h | h
        · exact hcp j h q' hq'
        · obtain rfl : j = c := by omega
          rw [hq] at hq'; cases hq'
          exact ⟨by omega, hb.1 rfl⟩⟩ (by omega) (Wk.slots' rfl (by simp [wkS, Ch.get]))
  have hcp' : ∀ (c : Nat), c < s.cpus.length → ∀ q, s.cpus[c]? = some q → q.ready.length ≤ 16 ∧ s.Proc c q := fun j hj => hcp j (by omega)
  clear hK
  simp only [go_sem, Nat.reduceAdd, Nat.reduceSub, Nat.reduceMul, Nat.reduceEqDiff, Nat.reduceLeDiff, Nat.reduceLT, ↓reduceIte, Int.reduceToNat, reduceCtorEq, Int.cast_ofNat_Int, Int.reduceLT, Int.reduceLE, Int.reduceGT, Int.reduceGE, Int.reduceEq, Int.reduceNe, Int.reduceNeg, Int.reduceAdd, Int.reduceSub, Int.le_refl]
  refine loop_fam (fun i : Nat => ((Ch.nil.put 1 (.ptr 0 0 0)).put 6 (iv i))) (fun _ => [.rows 3 [[.view false 3 (s.cpus.map Q.row), .view false 3 (s.thr.map T.row), iv s.quantum]]])
    (fun i => s.thr.length - i) (fun i => i ≤ s.thr.length ∧ ∀ j, j < i → ∀ t, s.thr[j]? = some t → ∀ q, s.cpus[t.cpu.toNat]? = some q → (t.st = 1 → q.ready.count (j : Int) = 1) ∧ (t.st = 2 → q.run = j)) 0 (by kernel_rfl) ⟨Nat.zero_le _, fun j hj => absurd hj (Nat.not_lt_zero _)⟩ (Wk.slots' rfl (by simp [wkS, Ch.get])) ?_
  rintro i ⟨hi, hpl⟩ K hK
  simp only [go_sem, Nat.reduceAdd, Nat.reduceSub, Nat.reduceMul, Nat.reduceEqDiff, Nat.reduceLeDiff, Nat.reduceLT, ↓reduceIte, Int.reduceToNat, reduceCtorEq, Int.cast_ofNat_Int, Int.reduceLT, Int.reduceLE, Int.reduceGT, Int.reduceGE, Int.reduceEq, Int.reduceNe, Int.reduceNeg, Int.reduceAdd, Int.reduceSub, Int.le_refl, List.length_map]
  refine condD_dec (fun hg => ?_) (fun hg => ?_)
  rotate_left
  · simp only [go_sem, Nat.reduceAdd, Nat.reduceSub, Nat.reduceMul, Nat.reduceEqDiff, Nat.reduceLeDiff, Nat.reduceLT, ↓reduceIte, Int.reduceToNat, reduceCtorEq, Int.cast_ofNat_Int, Int.reduceLT, Int.reduceLE, Int.reduceGT, Int.reduceGE, Int.reduceEq, Int.reduceNe, Int.reduceNeg, Int.reduceAdd, Int.reduceSub, Int.le_refl]
    exact good _ ⟨hbd, hth', hcp', fun j hj => hpl j (by omega)⟩
  have hg' : i < s.thr.length := by omega
  obtain ⟨t, ht⟩ := at_lt hg'
  have hb := hth' i hg' t ht
  have g1 : t.cpu.toNat < s.cpus.length := by omega
  obtain ⟨q, hq⟩ := at_lt g1
  have h16 := (hcp' _ g1 q hq).1
  have hb3 : 0 ≤ t.cpu := hb.2.2.1
  have hb4 : t.cpu < s.cpus.length := hb.2.2.2.1
  have e1 : iw .i64 ((i : Int) + 1) = ((i + 1 : Nat) : Int) := by rw [iw64] <;> omega
  have hbd2 : ¬ ((t.st = 1 → q.ready.count (i : Int) = 1) ∧ (t.st = 2 → q.run = i)) → ∀ H, Up 0 post (.ret (iv 50)) H := fun h H => bad H fun g => h (g.pl i hg' t ht q hq)
  have next : ((t.st = 1 → q.ready.count (i : Int) = 1) ∧ (t.st = 2 → q.run = i)) → ∀ j, j < i + 1 → ∀ t, s.thr[j]? = some t → ∀ q, s.cpus[t.cpu.toNat]? = some q → (t.st = 1 → q.ready.count (j : Int) = 1) ∧ (t.st = 2 → q.run = j) := fun h j hj t' ht' q' hq' => by
    rcases Nat.lt_or_ge j i with h' | h'
    · exact hpl j h' t' ht' q' hq'
    · obtain rfl : j = i := by omega
      rw [ht] at ht'; cases ht'
      rw [hq] at hq'; cases hq'
      exact h
  simp only [go_sem, Nat.reduceAdd, Nat.reduceSub, Nat.reduceMul, Nat.reduceEqDiff, Nat.reduceLeDiff, Nat.reduceLT, ↓reduceIte, Int.reduceToNat, reduceCtorEq, Int.cast_ofNat_Int, Int.reduceLT, Int.reduceLE, Int.reduceGT, Int.reduceGE, Int.reduceEq, Int.reduceNe, Int.reduceNeg, Int.reduceAdd, Int.reduceSub, Int.le_refl, List.length_map, List.getElem?_map, ht, hg, hg', Int.natCast_nonneg, T.row]
  rcases Decidable.em (t.st = 1) with a1 | a1
  · have a2 : ¬ t.st = 2 := by omega
    simp only [go_sem, Nat.reduceAdd, Nat.reduceSub, Nat.reduceMul, Nat.reduceEqDiff, Nat.reduceLeDiff, Nat.reduceLT, ↓reduceIte, Int.reduceToNat, reduceCtorEq, Int.cast_ofNat_Int, Int.reduceLT, Int.reduceLE, Int.reduceGT, Int.reduceGE, Int.reduceEq, Int.reduceNe, Int.reduceNeg, Int.reduceAdd, Int.reduceSub, Int.le_refl, a1, hb3, hb4, g1, hq, Q.row, List.length_map, List.getElem?_map, true_and]
    refine rK_use (enters_of Try.func71 rfl (by decide)) (ACalls.pure_use (count_c q.ready i false (by omega)) rfl rfl) ?_
    rcases Decidable.em (q.ready.count (i : Int) = 1) with a3 | a3
    · have a4 : ((q.ready.count (i : Int) : Int) = 1) := by omega
      simp only [go_sem, Nat.reduceAdd, Nat.reduceSub, Nat.reduceMul, Nat.reduceEqDiff, Nat.reduceLeDiff, Nat.reduceLT, ↓reduceIte, Int.reduceToNat, reduceCtorEq, Int.cast_ofNat_Int, Int.reduceLT, Int.reduceLE, Int.reduceGT, Int.reduceGE, Int.reduceEq, Int.reduceNe, Int.reduceNeg, Int.reduceAdd, Int.reduceSub, Int.le_refl, a1, a4, e1]
      exact hK (i + 1) _ _ ⟨hg', next ⟨fun _ => a3, fun h => absurd h a2⟩⟩ (by omega) (Wk.drop (m := 1) (by simp [wkS, Ch.get]) (by decide) (by simp) (by simp [chLt, AV.lt]) rfl (by simp [Blk.lt, ltL, AV.lt]))
    · have a4 : ¬ ((q.ready.count (i : Int) : Int) = 1) := by omega
      simp only [go_sem, Nat.reduceAdd, Nat.reduceSub, Nat.reduceMul, Nat.reduceEqDiff, Nat.reduceLeDiff, Nat.reduceLT, ↓reduceIte, Int.reduceToNat, reduceCtorEq, Int.cast_ofNat_Int, Int.reduceLT, Int.reduceLE, Int.reduceGT, Int.reduceGE, Int.reduceEq, Int.reduceNe, Int.reduceNeg, Int.reduceAdd, Int.reduceSub, Int.le_refl, a4]
      exact hbd2 (fun h => a3 (h.1 a1)) _
  · rcases Decidable.em (t.st = 2) with a2 | a2
    · rcases Decidable.em (q.run = i) with a3 | a3
      · simp only [go_sem, Nat.reduceAdd, Nat.reduceSub, Nat.reduceMul, Nat.reduceEqDiff, Nat.reduceLeDiff, Nat.reduceLT, ↓reduceIte, Int.reduceToNat, reduceCtorEq, Int.cast_ofNat_Int, Int.reduceLT, Int.reduceLE, Int.reduceGT, Int.reduceGE, Int.reduceEq, Int.reduceNe, Int.reduceNeg, Int.reduceAdd, Int.reduceSub, Int.le_refl, a1, a2, a3, hb3, hb4, g1, hq, Q.row, List.length_map, List.getElem?_map, true_and, e1]
        exact hK (i + 1) _ _ ⟨hg', next ⟨fun h => absurd h a1, fun _ => a3⟩⟩ (by omega) (Wk.drop (m := 1) (by simp [wkS, Ch.get]) (by decide) (by simp) (by simp [chLt, AV.lt]) rfl (by simp [Blk.lt, ltL, AV.lt]))
      · simp only [go_sem, Nat.reduceAdd, Nat.reduceSub, Nat.reduceMul, Nat.reduceEqDiff, Nat.reduceLeDiff, Nat.reduceLT, ↓reduceIte, Int.reduceToNat, reduceCtorEq, Int.cast_ofNat_Int, Int.reduceLT, Int.reduceLE, Int.reduceGT, Int.reduceGE, Int.reduceEq, Int.reduceNe, Int.reduceNeg, Int.reduceAdd, Int.reduceSub, Int.le_refl, a1, a2, a3, hb3, hb4, g1, hq, Q.row, List.length_map, List.getElem?_map, true_and]
        exact hbd2 (fun h => a3 (h.2 a2)) _
    · simp only [go_sem, Nat.reduceAdd, Nat.reduceSub, Nat.reduceMul, Nat.reduceEqDiff, Nat.reduceLeDiff, Nat.reduceLT, ↓reduceIte, Int.reduceToNat, reduceCtorEq, Int.cast_ofNat_Int, Int.reduceLT, Int.reduceLE, Int.reduceGT, Int.reduceGE, Int.reduceEq, Int.reduceNe, Int.reduceNeg, Int.reduceAdd, Int.reduceSub, Int.le_refl, a1, a2, e1]
      exact hK (i + 1) _ _ ⟨hg', next ⟨fun h => absurd h a1, fun h => absurd h a2⟩⟩ (by omega) (Wk.drop (m := 1) (by simp [wkS, Ch.get]) (by decide) (by simp) (by simp [chLt, AV.lt]) rfl (by simp [Blk.lt, ltL, AV.lt]))
end Go.Proofs.Ytljepmbikbdicaa

set_option maxRecDepth 100000
set_option linter.unusedVariables false
set_option linter.unusedSimpArgs false
namespace Go.Proofs.Ytljepmbikbdicaa
open Go.AM
def S.box (s : S) : Blk := .rows 3 [[.view false 3 (s.cpus.map Q.row), .view false 3 (s.thr.map T.row), iv s.quantum]]
def zcell : Blk := .rows 3 [[.view true 0 [], .view true 0 [], iv 0]]
/-- The copy in front. -/
theorem copied {n : Nat} {st st' : Ch} {s : S} (h : wkP (pi [4, 3, 2, 0, 1] 5) st' st) : Wk 0 n st [s.box, zcell, .rows 3 (s.thr.map T.row), .rows 3 (s.cpus.map Q.row), .rows 3 [[.sl 3 0 s.cpus.length none, .sl 2 0 s.thr.length none, iv s.quantum]]] st' (s.heap [s.box, zcell]) := by
  refine Wk.pick [4, 3, 2, 0, 1] (by decide) rfl ?_ h
  simp only [S.heap, List.map_cons, List.map_nil, List.getElem?_cons_zero, List.getElem?_cons_succ, bren_Q, bren_T, List.length_cons, List.length_nil]
  simp [Blk.ren, AV.ren, pi, S.box, zcell]
theorem box_lt' (s : S) : ∀ b ∈ [s.box, zcell], b.lt 0 := by simp [Blk.lt, ltL, AV.lt, S.box, zcell]
theorem box_lt2' (s t : S) : ∀ b ∈ [s.box, Blk.rows 3 [[AV.sl 1 0 t.cpus.length none, AV.sl 2 0 t.thr.length none, iv t.quantum]]], b.lt 3 := by simp [Blk.lt, ltL, AV.lt, S.box]
theorem box_dead (s : S) : ∀ b ∈ [s.box, Blk.dead], b.lt 0 := by simp [Blk.lt, ltL, AV.lt, S.box]
/-- A state at the end. -/
theorem ending {s' : S} {n m : Nat} {q : Int} {H R : Heap} {post : CQ} (hH : H = s'.heap R) (h1 : n = s'.cpus.length) (h2 : m = s'.thr.length) (h3 : q = s'.quantum) (hR : ∀ b ∈ R, b.lt 0) (hq : post (.ret s'.av) []) : Up 0 post (.ret (.agg [.sl 1 0 n none, .sl 2 0 m none, iv q])) H := by
  subst hH h1 h2 h3
  exact up_state1 hR hq
theorem ending2 {s' : S} {n m : Nat} {q k : Int} {H R : Heap} {post : CQ} (hH : H = s'.heap R) (h1 : n = s'.cpus.length) (h2 : m = s'.thr.length) (h3 : q = s'.quantum) (hR : ∀ b ∈ R, b.lt 0) (hq : post (.ret (.tuple [s'.av, iv k])) []) : Up 0 post (.ret (.tuple [.agg [.sl 1 0 n none, .sl 2 0 m none, iv q], iv k])) H := by
  subst hH h1 h2 h3
  exact up_state2 hR hq
def S.rLeave (s : S) (i : Nat) (t : T) (st : Int) : S := (if t.st = 1 then s.deq i else if t.st = 2 then match s.cpus[t.cpu.toNat]? with
  | some q => s.setQ t.cpu.toNat { q with run := -1, left := 0 }
  | none => s
  else s).setSt i st
theorem leave_c (s : S) (h : s.Ok) (i : Nat) (t : T) (ht : s.thr[i]? = some t) (st : Int) :
    ACalls Try.prog 95 [s.av, iv i, iv st] [] (fun o H => o = .ret (s.rLeave i t st).av ∧ H = []) := by
  have hf := h.fit
  obtain ⟨q, hq, hc, hrd, hql⟩ := h.at ht
  refine ACalls.up ?_
  refine ACalls.intro (cs := [2, 8]) (n := 49) Try.func95 rfl rfl rfl (by kernel_rfl) rfl ?_
  generalize hpost : (fun (o : Out) (H : Heap) => o = Out.ret (s.rLeave i t st).av ∧ H = []) = post
  simp only [go_sem, Nat.reduceAdd, Nat.reduceSub, Nat.reduceMul, Nat.reduceEqDiff, Nat.reduceLeDiff, Nat.reduceLT, ↓reduceIte, Int.reduceToNat, reduceCtorEq, Int.cast_ofNat_Int, Int.reduceLT, Int.reduceLE, Int.reduceGT, Int.reduceGE, Int.reduceEq, Int.reduceNe, Int.reduceNeg, Int.reduceAdd, Int.reduceSub, Int.le_refl, S.av]
  refine seq_cut (fun _ : Unit => ((((Ch.nil.put 1 (iv i)).put 2 (iv st)).put 3 (.ptr 3 0 0)).put 6 (.ptr 4 0 0)).put 7 (.ptr 0 0 0)) (fun _ => s.heap [s.box, zcell]) (fun _ => True) (by kernel_rfl) (fun K hK => ?_) (fun _ _ => ?_)
  · simp only [go_sem, Nat.reduceAdd, Nat.reduceSub, Nat.reduceMul, Nat.reduceEqDiff, Nat.reduceLeDiff, Nat.reduceLT, ↓reduceIte, Int.reduceToNat, reduceCtorEq, Int.cast_ofNat_Int, Int.reduceLT, Int.reduceLE, Int.reduceGT, Int.reduceGE, Int.reduceEq, Int.reduceNe, Int.reduceNeg, Int.reduceAdd, Int.reduceSub, Int.le_refl]
    refine rK_use (enters_of Try.func92 rfl (by decide)) (Copy_u s hf _ 2 rfl) ?_
    simp only [go_sem, Nat.reduceAdd, Nat.reduceSub, Nat.reduceMul, Nat.reduceEqDiff, Nat.reduceLeDiff, Nat.reduceLT, ↓reduceIte, Int.reduceToNat, reduceCtorEq, Int.cast_ofNat_Int, Int.reduceLT, Int.reduceLE, Int.reduceGT, Int.reduceGE, Int.reduceEq, Int.reduceNe, Int.reduceNeg, Int.reduceAdd, Int.reduceSub, Int.le_refl]
    exact hK () _ _ trivial (copied (by simp [wkP, Ch.get, AV.ren, pi]))
  have hti : i < s.thr.length := (List.getElem?_eq_some_iff.1 ht).1
  have hti2 : (i : Int) < s.thr.length := by omega
  have hcl : t.cpu.toNat < s.cpus.length := (List.getElem?_eq_some_iff.1 hq).1
  have hcl2 : t.cpu < s.cpus.length := by omega
  have hu : ∃ s1 : S, s1 = (if t.st = 1 then s.deq i else if t.st = 2 then match s.cpus[t.cpu.toNat]? with
    | some q => s.setQ t.cpu.toNat { q with run := -1, left := 0 }
    | none => s
    else s) ∧ s1.thr = s.thr := by
    refine ⟨_, rfl, ?_⟩
    simp only [S.deq, ht, hq]
    split
    · rfl
    · split <;> rfl
  obtain ⟨s1, hs1, hthr⟩ := hu
  have hfin : s.rLeave i t st = s1.setSt i st := by rw [hs1]; rfl
  rw [hfin] at hpost
  clear hfin
  simp only [go_sem, Nat.reduceAdd, Nat.reduceSub, Nat.reduceMul, Nat.reduceEqDiff, Nat.reduceLeDiff, Nat.reduceLT, ↓reduceIte, Int.reduceToNat, reduceCtorEq, Int.cast_ofNat_Int, Int.reduceLT, Int.reduceLE, Int.reduceGT, Int.reduceGE, Int.reduceEq, Int.reduceNe, Int.reduceNeg, Int.reduceAdd, Int.reduceSub, Int.le_refl]
  refine seq_cut (fun _ : Unit => (((Ch.nil.put 1 (iv i)).put 2 (iv st)).put 6 (.ptr 4 0 0)).put 7 (.ptr 0 0 0)) (fun _ => s1.heap [s.box, zcell]) (fun _ => True) (by kernel_rfl) (fun K hK => ?_) (fun _ _ => ?_)
  · simp only [go_sem, Nat.reduceAdd, Nat.reduceSub, Nat.reduceMul, Nat.reduceEqDiff, Nat.reduceLeDiff, Nat.reduceLT, ↓reduceIte, Int.reduceToNat, reduceCtorEq, Int.cast_ofNat_Int, Int.reduceLT, Int.reduceLE, Int.reduceGT, Int.reduceGE, Int.reduceEq, Int.reduceNe, Int.reduceNeg, Int.reduceAdd, Int.reduceSub, Int.le_refl, S.heap, S.box, zcell, List.length_map, List.getElem?_map, ht, hti, hti2, T.row, Int.natCast_nonneg]
    rcases Decidable.em (t.st = 1) with a1 | a1
    · rw [if_pos a1] at hs1
      simp only [go_sem, Nat.reduceAdd, Nat.reduceSub, Nat.reduceMul, Nat.reduceEqDiff, Nat.reduceLeDiff, Nat.reduceLT, ↓reduceIte, Int.reduceToNat, reduceCtorEq, Int.cast_ofNat_Int, Int.reduceLT, Int.reduceLE, Int.reduceGT, Int.reduceGE, Int.reduceEq, Int.reduceNe, Int.reduceNeg, Int.reduceAdd, Int.reduceSub, Int.le_refl, a1]
      refine rK_use (enters_of Try.func96 rfl (by decide)) (wuse (R := [s.box, zcell]) (out_r s i t q ht hc hq hql) (by simp [ltL, AV.lt]) rfl) ?_
      rw [← hs1]
      simp only [go_sem, Nat.reduceAdd, Nat.reduceSub, Nat.reduceMul, Nat.reduceEqDiff, Nat.reduceLeDiff, Nat.reduceLT, ↓reduceIte, Int.reduceToNat, reduceCtorEq, Int.cast_ofNat_Int, Int.reduceLT, Int.reduceLE, Int.reduceGT, Int.reduceGE, Int.reduceEq, Int.reduceNe, Int.reduceNeg, Int.reduceAdd, Int.reduceSub, Int.le_refl]
      exact hK () _ _ trivial (Wk.slots (by simp [wkS, Ch.get]))
    rw [if_neg a1] at hs1
    rcases Decidable.em (t.st = 2) with a2 | a2
    · rw [if_pos a2] at hs1
      simp only [hq] at hs1
      simp only [go_sem, Nat.reduceAdd, Nat.reduceSub, Nat.reduceMul, Nat.reduceEqDiff, Nat.reduceLeDiff, Nat.reduceLT, ↓reduceIte, Int.reduceToNat, reduceCtorEq, Int.cast_ofNat_Int, Int.reduceLT, Int.reduceLE, Int.reduceGT, Int.reduceGE, Int.reduceEq, Int.reduceNe, Int.reduceNeg, Int.reduceAdd, Int.reduceSub, Int.le_refl, a1, a2]
      refine draw [.qu 0 0, .qu 0 0, .qu 0 0, .qu 0 0, .qu 0 0, .qu 0 0, .qu 0 0, .qu 0 0, .qu 0 0, .qu 0 0, .mn 0] (by kernel_rfl) (by kernel_rfl) ?_
      simp only [go_sem, Nat.reduceAdd, Nat.reduceSub, Nat.reduceMul, Nat.reduceEqDiff, Nat.reduceLeDiff, Nat.reduceLT, ↓reduceIte, Int.reduceToNat, reduceCtorEq, Int.cast_ofNat_Int, Int.reduceLT, Int.reduceLE, Int.reduceGT, Int.reduceGE, Int.reduceEq, Int.reduceNe, Int.reduceNeg, Int.reduceAdd, Int.reduceSub, Int.le_refl, List.length_map, List.getElem?_map, ht, hti, hti2, T.row, Int.natCast_nonneg, hcl, hcl2, hc, hq, Q.row]
      refine draw [.qu 0 0, .qu 0 0, .qu 0 0, .qu 0 0, .qu 0 0, .qu 0 0, .qu 0 0, .qu 0 0, .qu 0 0, .qu 0 0, .mn 0] (by kernel_rfl) (by kernel_rfl) ?_
      simp only [go_sem, Nat.reduceAdd, Nat.reduceSub, Nat.reduceMul, Nat.reduceEqDiff, Nat.reduceLeDiff, Nat.reduceLT, ↓reduceIte, Int.reduceToNat, reduceCtorEq, Int.cast_ofNat_Int, Int.reduceLT, Int.reduceLE, Int.reduceGT, Int.reduceGE, Int.reduceEq, Int.reduceNe, Int.reduceNeg, Int.reduceAdd, Int.reduceSub, Int.le_refl, List.length_map, List.getElem?_map, ht, hti, hti2, T.row, Int.natCast_nonneg, hcl, hcl2, hc, hq, Q.row, List.length_set, List.getElem?_set, List.set_set]
      refine hK () _ _ trivial (Wk.slots' ?_ (by simp [wkS, Ch.get]))
      rw [hs1, S.setQ_heap]
      rfl
    · rw [if_neg a2] at hs1
      simp only [go_sem, Nat.reduceAdd, Nat.reduceSub, Nat.reduceMul, Nat.reduceEqDiff, Nat.reduceLeDiff, Nat.reduceLT, ↓reduceIte, Int.reduceToNat, reduceCtorEq, Int.cast_ofNat_Int, Int.reduceLT, Int.reduceLE, Int.reduceGT, Int.reduceGE, Int.reduceEq, Int.reduceNe, Int.reduceNeg, Int.reduceAdd, Int.reduceSub, Int.le_refl, a1, a2]
      exact hK () _ _ trivial (Wk.slots' (by rw [hs1]; rfl) (by simp [wkS, Ch.get]))
  have ht1 : s1.thr[i]? = some t := by rw [hthr]; exact ht
  have hti1 : i < s1.thr.length := by rw [hthr]; exact hti
  have hti3 : (i : Int) < s1.thr.length := by omega
  simp only [go_sem, Nat.reduceAdd, Nat.reduceSub, Nat.reduceMul, Nat.reduceEqDiff, Nat.reduceLeDiff, Nat.reduceLT, ↓reduceIte, Int.reduceToNat, reduceCtorEq, Int.cast_ofNat_Int, Int.reduceLT, Int.reduceLE, Int.reduceGT, Int.reduceGE, Int.reduceEq, Int.reduceNe, Int.reduceNeg, Int.reduceAdd, Int.reduceSub, Int.le_refl, S.heap, S.box, zcell, List.length_map, List.getElem?_map, ht1, hti1, hti3, T.row, Int.natCast_nonneg]
  subst hpost
  exact .dead 4 (ending (s' := s1.setSt i st) (R := [s.box, .dead]) (by rw [S.setSt_heap ht1]; rfl) (by simp [S.setSt_eq ht1]) (by simp [S.setSt_eq ht1]) (by simp [S.setSt_eq ht1]) (box_dead s) ⟨rfl, rfl⟩)
theorem EndR_c (s : S) (h : s.Ok) (i : Nat) (t : T) (ht : s.thr[i]? = some t) :
    ACalls Try.prog 65 [s.av, iv i] [] (fun o H => o = .ret (s.rLeave i t 4).av ∧ H = []) := by
  refine ACalls.up ?_
  refine ACalls.intro (cs := []) (n := 8) Try.func65 rfl rfl rfl (by kernel_rfl) rfl ?_
  simp only [go_sem, Nat.reduceAdd, Nat.reduceSub, Nat.reduceMul, Nat.reduceEqDiff, Nat.reduceLeDiff, Nat.reduceLT, ↓reduceIte, Int.reduceToNat, reduceCtorEq, Int.cast_ofNat_Int, Int.reduceLT, Int.reduceLE, Int.reduceGT, Int.reduceGE, Int.reduceEq, Int.reduceNe, Int.reduceNeg, Int.reduceAdd, Int.reduceSub, Int.le_refl, S.av]
  refine rK_use (enters_of Try.func95 rfl (by decide)) (ACalls.pure_use (leave_c s h i t ht 4) rfl rfl) ?_
  simp only [go_sem, Nat.reduceAdd, Nat.reduceSub, Nat.reduceMul, Nat.reduceEqDiff, Nat.reduceLeDiff, Nat.reduceLT, ↓reduceIte, Int.reduceToNat, reduceCtorEq, Int.cast_ofNat_Int, Int.reduceLT, Int.reduceLE, Int.reduceGT, Int.reduceGE, Int.reduceEq, Int.reduceNe, Int.reduceNeg, Int.reduceAdd, Int.reduceSub, Int.le_refl, S.av]
  exact .gc 0 (Nat.le_refl _) (Nat.zero_le _) (by simp [Out.lt, AV.lt, ltL]) (by simp) (.done ⟨rfl, rfl⟩)
theorem BlockR_c (s : S) (h : s.Ok) (i : Nat) (t : T) (ht : s.thr[i]? = some t) :
    ACalls Try.prog 66 [s.av, iv i] [] (fun o H => o = .ret (s.rLeave i t 3).av ∧ H = []) := by
  refine ACalls.up ?_
  refine ACalls.intro (cs := []) (n := 8) Try.func66 rfl rfl rfl (by kernel_rfl) rfl ?_
  simp only [go_sem, Nat.reduceAdd, Nat.reduceSub, Nat.reduceMul, Nat.reduceEqDiff, Nat.reduceLeDiff, Nat.reduceLT, ↓reduceIte, Int.reduceToNat, reduceCtorEq, Int.cast_ofNat_Int, Int.reduceLT, Int.reduceLE, Int.reduceGT, Int.reduceGE, Int.reduceEq, Int.reduceNe, Int.reduceNeg, Int.reduceAdd, Int.reduceSub, Int.le_refl, S.av]
  refine rK_use (enters_of Try.func95 rfl (by decide)) (ACalls.pure_use (leave_c s h i t ht 3) rfl rfl) ?_
  simp only [go_sem, Nat.reduceAdd, Nat.reduceSub, Nat.reduceMul, Nat.reduceEqDiff, Nat.reduceLeDiff, Nat.reduceLT, ↓reduceIte, Int.reduceToNat, reduceCtorEq, Int.cast_ofNat_Int, Int.reduceLT, Int.reduceLE, Int.reduceGT, Int.reduceGE, Int.reduceEq, Int.reduceNe, Int.reduceNeg, Int.reduceAdd, Int.reduceSub, Int.le_refl, S.av]
  exact .gc 0 (Nat.le_refl _) (Nat.zero_le _) (by simp [Out.lt, AV.lt, ltL]) (by simp) (.done ⟨rfl, rfl⟩)
theorem setQ_len (s : S) (c : Nat) (q : Q) : (s.setQ c q).cpus.length = s.cpus.length := by simp [S.setQ]
theorem enq_facts (s : S) (i : Nat) (f : Bool) : (s.enq i f).cpus.length = s.cpus.length ∧ (s.enq i f).thr = s.thr ∧ (s.enq i f).quantum = s.quantum := by
  unfold S.enq
  split
  · exact ⟨rfl, rfl, rfl⟩
  · split
    · exact ⟨rfl, rfl, rfl⟩
    · exact ⟨setQ_len _ _ _, rfl, rfl⟩
theorem deq_facts (s : S) (i : Nat) : (s.deq i).cpus.length = s.cpus.length ∧ (s.deq i).thr = s.thr ∧ (s.deq i).quantum = s.quantum := by
  unfold S.deq
  split
  · exact ⟨rfl, rfl, rfl⟩
  · split
    · exact ⟨rfl, rfl, rfl⟩
    · exact ⟨setQ_len _ _ _, rfl, rfl⟩
theorem WakeR_c (s : S) (h : s.Ok) (i : Nat) (t : T) (ht : s.thr[i]? = some t) :
    ACalls Try.prog 67 [s.av, iv i] [] (fun o H => o = .ret ((s.setSt i 1).enq i false).av ∧ H = []) := by
  have hf := h.fit
  obtain ⟨q, hq, hc, hrd, hql⟩ := h.at ht
  refine ACalls.up ?_
  refine ACalls.intro (cs := [2]) (n := 16) Try.func67 rfl rfl rfl (by kernel_rfl) rfl ?_
  generalize hpost : (fun (o : Out) (H : Heap) => o = Out.ret ((s.setSt i 1).enq i false).av ∧ H = []) = post
  simp only [go_sem, Nat.reduceAdd, Nat.reduceSub, Nat.reduceMul, Nat.reduceEqDiff, Nat.reduceLeDiff, Nat.reduceLT, ↓reduceIte, Int.reduceToNat, reduceCtorEq, Int.cast_ofNat_Int, Int.reduceLT, Int.reduceLE, Int.reduceGT, Int.reduceGE, Int.reduceEq, Int.reduceNe, Int.reduceNeg, Int.reduceAdd, Int.reduceSub, Int.le_refl, S.av]
  refine seq_cut (fun _ : Unit => (((Ch.nil.put 1 (iv i)).put 2 (.ptr 3 0 0)).put 4 (.ptr 4 0 0)).put 5 (.ptr 0 0 0)) (fun _ => s.heap [s.box, zcell]) (fun _ => True) (by kernel_rfl) (fun K hK => ?_) (fun _ _ => ?_)
  · simp only [go_sem, Nat.reduceAdd, Nat.reduceSub, Nat.reduceMul, Nat.reduceEqDiff, Nat.reduceLeDiff, Nat.reduceLT, ↓reduceIte, Int.reduceToNat, reduceCtorEq, Int.cast_ofNat_Int, Int.reduceLT, Int.reduceLE, Int.reduceGT, Int.reduceGE, Int.reduceEq, Int.reduceNe, Int.reduceNeg, Int.reduceAdd, Int.reduceSub, Int.le_refl]
    refine rK_use (enters_of Try.func92 rfl (by decide)) (Copy_u s hf _ 2 rfl) ?_
    simp only [go_sem, Nat.reduceAdd, Nat.reduceSub, Nat.reduceMul, Nat.reduceEqDiff, Nat.reduceLeDiff, Nat.reduceLT, ↓reduceIte, Int.reduceToNat, reduceCtorEq, Int.cast_ofNat_Int, Int.reduceLT, Int.reduceLE, Int.reduceGT, Int.reduceGE, Int.reduceEq, Int.reduceNe, Int.reduceNeg, Int.reduceAdd, Int.reduceSub, Int.le_refl]
    exact hK () _ _ trivial (copied (by simp [wkP, Ch.get, AV.ren, pi]))
  have hti : i < s.thr.length := (List.getElem?_eq_some_iff.1 ht).1
  have hti2 : (i : Int) < s.thr.length := by omega
  have e := S.setSt_heap ht 1 [s.box, zcell]
  have e0 := S.setSt_eq ht 1
  simp only [go_sem, Nat.reduceAdd, Nat.reduceSub, Nat.reduceMul, Nat.reduceEqDiff, Nat.reduceLeDiff, Nat.reduceLT, ↓reduceIte, Int.reduceToNat, reduceCtorEq, Int.cast_ofNat_Int, Int.reduceLT, Int.reduceLE, Int.reduceGT, Int.reduceGE, Int.reduceEq, Int.reduceNe, Int.reduceNeg, Int.reduceAdd, Int.reduceSub, Int.le_refl, S.heap, S.box, zcell, List.length_map, List.getElem?_map, ht, hti, hti2, T.row, Int.natCast_nonneg]
  simp only [S.box, zcell, List.cons_append, List.nil_append] at e
  rw [← e]
  have ht1 : (s.setSt i 1).thr[i]? = some { t with st := 1 } := by rw [e0]; simp [hti]
  have hq1 : (s.setSt i 1).cpus[t.cpu.toNat]? = some q := by rw [e0]; exact hq
  have hl1 : (s.setSt i 1).thr.length = s.thr.length := by rw [e0]; simp
  have hput := put_r (s.setSt i 1) i false { t with st := 1 } q ht1 hc hq1 hql (by rw [hl1]; exact hrd)
  refine rK_use (enters_of Try.func93 rfl (by decide)) (wuse (R := [s.box, zcell]) (hput) (by simp [ltL, AV.lt]) rfl) ?_
  generalize (s.setSt i 1).enq i false = s2 at hpost
  simp only [go_sem, Nat.reduceAdd, Nat.reduceSub, Nat.reduceMul, Nat.reduceEqDiff, Nat.reduceLeDiff, Nat.reduceLT, ↓reduceIte, Int.reduceToNat, reduceCtorEq, Int.cast_ofNat_Int, Int.reduceLT, Int.reduceLE, Int.reduceGT, Int.reduceGE, Int.reduceEq, Int.reduceNe, Int.reduceNeg, Int.reduceAdd, Int.reduceSub, Int.le_refl, S.heap, S.box, zcell]
  subst hpost
  exact .dead 4 (ending (s' := s2) (R := [s.box, .dead]) rfl rfl rfl rfl (box_dead s) ⟨rfl, rfl⟩)
end Go.Proofs.Ytljepmbikbdicaa

set_option maxRecDepth 100000
set_option linter.unusedVariables false
set_option linter.unusedSimpArgs false
namespace Go.Proofs.Ytljepmbikbdicaa
open Go.AM
def S.rPri (s : S) (i : Nat) (t : T) (p : Int) : S := if t.st = 1 then (((s.deq i).setPri i p).enq i false) else s.setPri i p
theorem SetPriR_c (s : S) (h : s.Ok) (i : Nat) (t : T) (ht : s.thr[i]? = some t) (p : Int) :
    ACalls Try.prog 68 [s.av, iv i, iv p] [] (fun o H => o = .ret (s.rPri i t p).av ∧ H = []) := by
  obtain ⟨q, hq, hc, hrd, hql⟩ := h.at ht
  have hf := h.fit
  refine ACalls.up ?_
  refine ACalls.intro (cs := [2, 4, 5]) (n := 35) Try.func68 rfl rfl rfl (by kernel_rfl) rfl ?_
  generalize hpost : (fun (o : Out) (H : Heap) => o = Out.ret (s.rPri i t p).av ∧ H = []) = post
  simp only [go_sem, Nat.reduceAdd, Nat.reduceSub, Nat.reduceMul, Nat.reduceEqDiff, Nat.reduceLeDiff, Nat.reduceLT, ↓reduceIte, Int.reduceToNat, reduceCtorEq, Int.cast_ofNat_Int, Int.reduceLT, Int.reduceLE, Int.reduceGT, Int.reduceGE, Int.reduceEq, Int.reduceNe, Int.reduceNeg, Int.reduceAdd, Int.reduceSub, Int.le_refl, S.av]
  refine seq_cut (fun _ : Unit => (((((Ch.nil.put 1 (iv i)).put 2 (iv p)).put 3 (.ptr 3 0 0)).put 6 (.ptr 4 0 0)).put 7 (.ptr 0 0 0))) (fun _ => s.heap [s.box, zcell]) (fun _ => True) (by kernel_rfl) (fun K hK => ?_) (fun _ _ => ?_)
  · simp only [go_sem, Nat.reduceAdd, Nat.reduceSub, Nat.reduceMul, Nat.reduceEqDiff, Nat.reduceLeDiff, Nat.reduceLT, ↓reduceIte, Int.reduceToNat, reduceCtorEq, Int.cast_ofNat_Int, Int.reduceLT, Int.reduceLE, Int.reduceGT, Int.reduceGE, Int.reduceEq, Int.reduceNe, Int.reduceNeg, Int.reduceAdd, Int.reduceSub, Int.le_refl]
    refine rK_use (enters_of Try.func92 rfl (by decide)) (Copy_u s hf _ 2 rfl) ?_
    simp only [go_sem, Nat.reduceAdd, Nat.reduceSub, Nat.reduceMul, Nat.reduceEqDiff, Nat.reduceLeDiff, Nat.reduceLT, ↓reduceIte, Int.reduceToNat, reduceCtorEq, Int.cast_ofNat_Int, Int.reduceLT, Int.reduceLE, Int.reduceGT, Int.reduceGE, Int.reduceEq, Int.reduceNe, Int.reduceNeg, Int.reduceAdd, Int.reduceSub, Int.le_refl]
    exact hK () _ _ trivial (copied (by simp [wkP, Ch.get, AV.ren, pi]))
  have hti : i < s.thr.length := (List.getElem?_eq_some_iff.1 ht).1
  have hti2 : (i : Int) < s.thr.length := by omega
  have hd := deq_facts s i
  obtain ⟨s1, hs1, hthr, hcl1⟩ : ∃ s1 : S, s1 = (if t.st = 1 then s.deq i else s) ∧ s1.thr = s.thr ∧ s1.cpus.length = s.cpus.length := by
    refine ⟨_, rfl, ?_, ?_⟩ <;> split
    · exact hd.2.1
    · rfl
    · exact hd.1
    · rfl
  have ht1 : s1.thr[i]? = some t := by rw [hthr]; exact ht
  have e := S.setPri_heap ht1 p [s.box, zcell]
  have e0 := S.setPri_eq ht1 p
  have hti1 : i < s1.thr.length := by rw [hthr]; exact hti
  have hti3 : (i : Int) < s1.thr.length := by omega
  simp only [go_sem, Nat.reduceAdd, Nat.reduceSub, Nat.reduceMul, Nat.reduceEqDiff, Nat.reduceLeDiff, Nat.reduceLT, ↓reduceIte, Int.reduceToNat, reduceCtorEq, Int.cast_ofNat_Int, Int.reduceLT, Int.reduceLE, Int.reduceGT, Int.reduceGE, Int.reduceEq, Int.reduceNe, Int.reduceNeg, Int.reduceAdd, Int.reduceSub, Int.le_refl]
  refine seq_cut (fun _ : Unit => (((((Ch.nil.put 1 (iv i)).put 2 (iv p)).put 3 (.ptr 3 0 0)).put 6 (.ptr 4 0 0)).put 7 (.ptr 0 0 0))) (fun _ => s1.heap [s.box, zcell]) (fun _ => True) (by kernel_rfl) (fun K hK => ?_) (fun _ _ => ?_)
  · simp only [go_sem, Nat.reduceAdd, Nat.reduceSub, Nat.reduceMul, Nat.reduceEqDiff, Nat.reduceLeDiff, Nat.reduceLT, ↓reduceIte, Int.reduceToNat, reduceCtorEq, Int.cast_ofNat_Int, Int.reduceLT, Int.reduceLE, Int.reduceGT, Int.reduceGE, Int.reduceEq, Int.reduceNe, Int.reduceNeg, Int.reduceAdd, Int.reduceSub, Int.le_refl, S.heap, S.box, zcell, List.length_map, List.getElem?_map, ht, hti, hti2, T.row, Int.natCast_nonneg]
    rcases Decidable.em (t.st = 1) with a1 | a1
    · rw [if_pos a1] at hs1
      simp only [go_sem, Nat.reduceAdd, Nat.reduceSub, Nat.reduceMul, Nat.reduceEqDiff, Nat.reduceLeDiff, Nat.reduceLT, ↓reduceIte, Int.reduceToNat, reduceCtorEq, Int.cast_ofNat_Int, Int.reduceLT, Int.reduceLE, Int.reduceGT, Int.reduceGE, Int.reduceEq, Int.reduceNe, Int.reduceNeg, Int.reduceAdd, Int.reduceSub, Int.le_refl, a1]
      refine rK_use (enters_of Try.func96 rfl (by decide)) (wuse (R := [s.box, zcell]) (out_r s i t q ht hc hq hql) (by simp [ltL, AV.lt]) rfl) ?_
      rw [← hs1]
      simp only [go_sem, Nat.reduceAdd, Nat.reduceSub, Nat.reduceMul, Nat.reduceEqDiff, Nat.reduceLeDiff, Nat.reduceLT, ↓reduceIte, Int.reduceToNat, reduceCtorEq, Int.cast_ofNat_Int, Int.reduceLT, Int.reduceLE, Int.reduceGT, Int.reduceGE, Int.reduceEq, Int.reduceNe, Int.reduceNeg, Int.reduceAdd, Int.reduceSub, Int.le_refl]
      exact hK () _ _ trivial (Wk.slots (by simp [wkS, Ch.get]))
    · rw [if_neg a1] at hs1
      subst hs1
      simp only [go_sem, Nat.reduceAdd, Nat.reduceSub, Nat.reduceMul, Nat.reduceEqDiff, Nat.reduceLeDiff, Nat.reduceLT, ↓reduceIte, Int.reduceToNat, reduceCtorEq, Int.cast_ofNat_Int, Int.reduceLT, Int.reduceLE, Int.reduceGT, Int.reduceGE, Int.reduceEq, Int.reduceNe, Int.reduceNeg, Int.reduceAdd, Int.reduceSub, Int.le_refl, a1]
      exact hK () _ _ trivial (Wk.slots' rfl (by simp [wkS, Ch.get]))
  simp only [go_sem, Nat.reduceAdd, Nat.reduceSub, Nat.reduceMul, Nat.reduceEqDiff, Nat.reduceLeDiff, Nat.reduceLT, ↓reduceIte, Int.reduceToNat, reduceCtorEq, Int.cast_ofNat_Int, Int.reduceLT, Int.reduceLE, Int.reduceGT, Int.reduceGE, Int.reduceEq, Int.reduceNe, Int.reduceNeg, Int.reduceAdd, Int.reduceSub, Int.le_refl]
  refine seq_cut (fun _ : Unit => ((((Ch.nil.put 1 (iv i)).put 3 (.ptr 3 0 0)).put 6 (.ptr 4 0 0)).put 7 (.ptr 0 0 0))) (fun _ => (s1.setPri i p).heap [s.box, zcell]) (fun _ => True) (by kernel_rfl) (fun K hK => ?_) (fun _ _ => ?_)
  · simp only [go_sem, Nat.reduceAdd, Nat.reduceSub, Nat.reduceMul, Nat.reduceEqDiff, Nat.reduceLeDiff, Nat.reduceLT, ↓reduceIte, Int.reduceToNat, reduceCtorEq, Int.cast_ofNat_Int, Int.reduceLT, Int.reduceLE, Int.reduceGT, Int.reduceGE, Int.reduceEq, Int.reduceNe, Int.reduceNeg, Int.reduceAdd, Int.reduceSub, Int.le_refl, S.heap, List.length_map, List.getElem?_map, ht1, hti1, hti3, T.row, Int.natCast_nonneg]
    exact hK () _ _ trivial (Wk.slots' (by rw [e]; rfl) (by simp [wkS, Ch.get]))
  have ht2 : (s1.setPri i p).thr[i]? = some { t with pri := p } := by rw [e0]; simp [hti1]
  have hl2 : (s1.setPri i p).thr.length = s.thr.length := by rw [e0]; simp [hthr]
  have hti4 : (i : Int) < (s1.setPri i p).thr.length := by omega
  have hti5 : i < (s1.setPri i p).thr.length := by omega
  have hcl2 : t.cpu.toNat < (s1.setPri i p).cpus.length := by rw [e0]; dsimp only; rw [hcl1]; exact (List.getElem?_eq_some_iff.1 hq).1
  obtain ⟨q2, hq2⟩ := at_lt hcl2
  simp only [go_sem, Nat.reduceAdd, Nat.reduceSub, Nat.reduceMul, Nat.reduceEqDiff, Nat.reduceLeDiff, Nat.reduceLT, ↓reduceIte, Int.reduceToNat, reduceCtorEq, Int.cast_ofNat_Int, Int.reduceLT, Int.reduceLE, Int.reduceGT, Int.reduceGE, Int.reduceEq, Int.reduceNe, Int.reduceNeg, Int.reduceAdd, Int.reduceSub, Int.le_refl, S.heap, List.length_map, List.getElem?_map, ht2, hti4, hti5, T.row, Int.natCast_nonneg]
  rcases Decidable.em (t.st = 1) with a1 | a1
  · have hr : s.rPri i t p = (s1.setPri i p).enq i false := by rw [S.rPri, if_pos a1, hs1, if_pos a1]
    have hq2r : q2.ready.length ≤ 1000 ∧ ∀ x ∈ q2.ready, 0 ≤ x ∧ x < (s1.setPri i p).thr.length := by
      rw [e0, hs1, if_pos a1] at hq2
      simp only [S.deq, ht, hq] at hq2
      rw [setQ_self (List.getElem?_eq_some_iff.1 hq).1] at hq2
      cases hq2
      refine ⟨Nat.le_trans (List.length_filter_le _ _) hql, fun x hx => ?_⟩
      rw [hl2]
      exact hrd x (List.mem_filter.1 hx).1
    have hput := put_r (s1.setPri i p) i false { t with pri := p } q2 ht2 hc hq2 hq2r.1 hq2r.2
    rw [hr] at hpost
    generalize s1.setPri i p = s2 at *
    simp only [go_sem, Nat.reduceAdd, Nat.reduceSub, Nat.reduceMul, Nat.reduceEqDiff, Nat.reduceLeDiff, Nat.reduceLT, ↓reduceIte, Int.reduceToNat, reduceCtorEq, Int.cast_ofNat_Int, Int.reduceLT, Int.reduceLE, Int.reduceGT, Int.reduceGE, Int.reduceEq, Int.reduceNe, Int.reduceNeg, Int.reduceAdd, Int.reduceSub, Int.le_refl, a1]
    refine rK_use (enters_of Try.func93 rfl (by decide)) (wuse (R := [s.box, zcell]) (hput) (by simp [ltL, AV.lt]) rfl) ?_
    generalize s2.enq i false = s3 at *
    simp only [go_sem, Nat.reduceAdd, Nat.reduceSub, Nat.reduceMul, Nat.reduceEqDiff, Nat.reduceLeDiff, Nat.reduceLT, ↓reduceIte, Int.reduceToNat, reduceCtorEq, Int.cast_ofNat_Int, Int.reduceLT, Int.reduceLE, Int.reduceGT, Int.reduceGE, Int.reduceEq, Int.reduceNe, Int.reduceNeg, Int.reduceAdd, Int.reduceSub, Int.le_refl, S.heap, S.box, zcell]
    subst hpost
    exact .dead 4 (ending (s' := s3) (R := [s.box, .dead]) rfl rfl rfl rfl (box_dead s) ⟨rfl, rfl⟩)
  · have hr : s.rPri i t p = s1.setPri i p := by rw [S.rPri, if_neg a1, hs1, if_neg a1]
    rw [hr] at hpost
    generalize s1.setPri i p = s2 at *
    simp only [go_sem, Nat.reduceAdd, Nat.reduceSub, Nat.reduceMul, Nat.reduceEqDiff, Nat.reduceLeDiff, Nat.reduceLT, ↓reduceIte, Int.reduceToNat, reduceCtorEq, Int.cast_ofNat_Int, Int.reduceLT, Int.reduceLE, Int.reduceGT, Int.reduceGE, Int.reduceEq, Int.reduceNe, Int.reduceNeg, Int.reduceAdd, Int.reduceSub, Int.le_refl, a1, S.heap, S.box, zcell]
    subst hpost
    exact .dead 4 (ending (s' := s2) (R := [s.box, .dead]) rfl rfl rfl rfl (box_dead s) ⟨rfl, rfl⟩)
def S.rMore (s : S) (p c : Int) : S := { s with thr := s.thr ++ [⟨p, c, 1⟩] }
theorem AddR_c (s : S) (h : s.Ok) (p : Int) (c : Nat) (q : Q) (hq : s.cpus[c]? = some q) :
    ACalls Try.prog 63 [s.av, iv p, iv c] [] (fun o H => o = .ret ((s.rMore p c).enq s.thr.length false).av ∧ H = []) := by
  have h16 := h.t16
  have hrd := (h.due_h hq).1
  have hf := h.fit
  refine ACalls.up ?_
  refine ACalls.intro (cs := [2, 3]) (n := 23) Try.func63 rfl rfl rfl (by kernel_rfl) rfl ?_
  generalize hpost : (fun (o : Out) (H : Heap) => o = Out.ret ((s.rMore p c).enq s.thr.length false).av ∧ H = []) = post
  simp only [go_sem, Nat.reduceAdd, Nat.reduceSub, Nat.reduceMul, Nat.reduceEqDiff, Nat.reduceLeDiff, Nat.reduceLT, ↓reduceIte, Int.reduceToNat, reduceCtorEq, Int.cast_ofNat_Int, Int.reduceLT, Int.reduceLE, Int.reduceGT, Int.reduceGE, Int.reduceEq, Int.reduceNe, Int.reduceNeg, Int.reduceAdd, Int.reduceSub, Int.le_refl, S.av]
  refine seq_cut (fun _ : Unit => (((((Ch.nil.put 1 (iv p)).put 2 (iv c)).put 3 (.ptr 3 0 0)).put 6 (.ptr 4 0 0)).put 7 (.ptr 0 0 0))) (fun _ => s.heap [s.box, zcell]) (fun _ => True) (by kernel_rfl) (fun K hK => ?_) (fun _ _ => ?_)
  · simp only [go_sem, Nat.reduceAdd, Nat.reduceSub, Nat.reduceMul, Nat.reduceEqDiff, Nat.reduceLeDiff, Nat.reduceLT, ↓reduceIte, Int.reduceToNat, reduceCtorEq, Int.cast_ofNat_Int, Int.reduceLT, Int.reduceLE, Int.reduceGT, Int.reduceGE, Int.reduceEq, Int.reduceNe, Int.reduceNeg, Int.reduceAdd, Int.reduceSub, Int.le_refl]
    refine rK_use (enters_of Try.func92 rfl (by decide)) (Copy_u s hf _ 2 rfl) ?_
    simp only [go_sem, Nat.reduceAdd, Nat.reduceSub, Nat.reduceMul, Nat.reduceEqDiff, Nat.reduceLeDiff, Nat.reduceLT, ↓reduceIte, Int.reduceToNat, reduceCtorEq, Int.cast_ofNat_Int, Int.reduceLT, Int.reduceLE, Int.reduceGT, Int.reduceGE, Int.reduceEq, Int.reduceNe, Int.reduceNeg, Int.reduceAdd, Int.reduceSub, Int.le_refl]
    exact hK () _ _ trivial (copied (by simp [wkP, Ch.get, AV.ren, pi]))
  have hql := hf.r q (List.mem_of_getElem? hq)
  have h1 : s.thr.length + 1 ≤ 68719476736 := by omega
  have e4 : (s.thr.map T.row).take s.thr.length = s.thr.map T.row := List.take_of_length_le (by simp)
  simp only [go_sem, Nat.reduceAdd, Nat.reduceSub, Nat.reduceMul, Nat.reduceEqDiff, Nat.reduceLeDiff, Nat.reduceLT, ↓reduceIte, Int.reduceToNat, reduceCtorEq, Int.cast_ofNat_Int, Int.reduceLT, Int.reduceLE, Int.reduceGT, Int.reduceGE, Int.reduceEq, Int.reduceNe, Int.reduceNeg, Int.reduceAdd, Int.reduceSub, Int.le_refl]
  refine seq_cut (fun _ : Unit => (((Ch.nil.put 3 (.ptr 3 0 0)).put 6 (.ptr 4 0 0)).put 7 (.ptr 0 0 0))) (fun _ => (s.rMore p c).heap [s.box, zcell]) (fun _ => True) (by kernel_rfl) (fun K hK => ?_) (fun _ _ => ?_)
  · simp only [go_sem, Nat.reduceAdd, Nat.reduceSub, Nat.reduceMul, Nat.reduceEqDiff, Nat.reduceLeDiff, Nat.reduceLT, ↓reduceIte, Int.reduceToNat, reduceCtorEq, Int.cast_ofNat_Int, Int.reduceLT, Int.reduceLE, Int.reduceGT, Int.reduceGE, Int.reduceEq, Int.reduceNe, Int.reduceNeg, Int.reduceAdd, Int.reduceSub, Int.le_refl, S.heap, S.box, zcell, h1, e4, List.length_map]
    refine hK () _ _ trivial (Wk.pick [0, 1, 6, 3, 4] (by decide) rfl ?_ (by simp [wkP, Ch.get, AV.ren, pi]))
    have e5 : s.thr.map T.row ++ [[iv p, iv c, iv 1]] = (s.rMore p c).thr.map T.row := by simp [S.rMore, T.row]
    simp only [S.heap, S.box, zcell, List.map_cons, List.map_nil, List.getElem?_cons_zero, List.getElem?_cons_succ, bren_Q, bren_T, List.length_cons, List.length_nil, e5]
    simp [Blk.ren, AV.ren, pi, S.rMore, -List.map_map]
  have hput := put_r (s.rMore p c) s.thr.length false ⟨p, c, 1⟩ q (by simp [S.rMore]) (by simp) (by simpa [S.rMore] using hq) hql (fun x hx => by have := hrd x hx; simp [S.rMore]; omega)
  simp only [go_sem, Nat.reduceAdd, Nat.reduceSub, Nat.reduceMul, Nat.reduceEqDiff, Nat.reduceLeDiff, Nat.reduceLT, ↓reduceIte, Int.reduceToNat, reduceCtorEq, Int.cast_ofNat_Int, Int.reduceLT, Int.reduceLE, Int.reduceGT, Int.reduceGE, Int.reduceEq, Int.reduceNe, Int.reduceNeg, Int.reduceAdd, Int.reduceSub, Int.le_refl, S.heap, S.box, zcell, List.length_map]
  refine rK_use (enters_of Try.func93 rfl (by decide)) (wuse (R := [s.box, zcell]) (hput) (by simp [ltL, AV.lt]) rfl) ?_
  generalize (s.rMore p c).enq s.thr.length false = s3 at *
  simp only [go_sem, Nat.reduceAdd, Nat.reduceSub, Nat.reduceMul, Nat.reduceEqDiff, Nat.reduceLeDiff, Nat.reduceLT, ↓reduceIte, Int.reduceToNat, reduceCtorEq, Int.cast_ofNat_Int, Int.reduceLT, Int.reduceLE, Int.reduceGT, Int.reduceGE, Int.reduceEq, Int.reduceNe, Int.reduceNeg, Int.reduceAdd, Int.reduceSub, Int.le_refl, S.heap, S.box, zcell]
  subst hpost
  exact .dead 4 (ending (s' := s3) (R := [s.box, .dead]) rfl rfl rfl rfl (box_dead s) ⟨rfl, rfl⟩)
theorem TickR_c (s : S) (h : s.Ok) (c : Nat) (q : Q) (hq : s.cpus[c]? = some q) :
    ACalls Try.prog 81 [s.av, iv c] [] (fun o H => o = .ret (if 0 < q.left then s.setQ c { q with left := q.left - 1 } else s).av ∧ H = []) := by
  have hcl : c < s.cpus.length := (List.getElem?_eq_some_iff.1 hq).1
  have hcl2 : (c : Int) < s.cpus.length := by omega
  have hf := h.fit
  refine ACalls.up ?_
  refine ACalls.intro (cs := [2]) (n := 25) Try.func81 rfl rfl rfl (by kernel_rfl) rfl ?_
  generalize hpost : (fun (o : Out) (H : Heap) => o = Out.ret (if 0 < q.left then s.setQ c { q with left := q.left - 1 } else s).av ∧ H = []) = post
  simp only [go_sem, Nat.reduceAdd, Nat.reduceSub, Nat.reduceMul, Nat.reduceEqDiff, Nat.reduceLeDiff, Nat.reduceLT, ↓reduceIte, Int.reduceToNat, reduceCtorEq, Int.cast_ofNat_Int, Int.reduceLT, Int.reduceLE, Int.reduceGT, Int.reduceGE, Int.reduceEq, Int.reduceNe, Int.reduceNeg, Int.reduceAdd, Int.reduceSub, Int.le_refl, S.av]
  refine seq_cut (fun _ : Unit => ((((Ch.nil.put 1 (iv c)).put 2 (.ptr 3 0 0)).put 4 (.ptr 4 0 0)).put 5 (.ptr 0 0 0))) (fun _ => s.heap [s.box, zcell]) (fun _ => True) (by kernel_rfl) (fun K hK => ?_) (fun _ _ => ?_)
  · simp only [go_sem, Nat.reduceAdd, Nat.reduceSub, Nat.reduceMul, Nat.reduceEqDiff, Nat.reduceLeDiff, Nat.reduceLT, ↓reduceIte, Int.reduceToNat, reduceCtorEq, Int.cast_ofNat_Int, Int.reduceLT, Int.reduceLE, Int.reduceGT, Int.reduceGE, Int.reduceEq, Int.reduceNe, Int.reduceNeg, Int.reduceAdd, Int.reduceSub, Int.le_refl]
    refine rK_use (enters_of Try.func92 rfl (by decide)) (Copy_u s hf _ 2 rfl) ?_
    simp only [go_sem, Nat.reduceAdd, Nat.reduceSub, Nat.reduceMul, Nat.reduceEqDiff, Nat.reduceLeDiff, Nat.reduceLT, ↓reduceIte, Int.reduceToNat, reduceCtorEq, Int.cast_ofNat_Int, Int.reduceLT, Int.reduceLE, Int.reduceGT, Int.reduceGE, Int.reduceEq, Int.reduceNe, Int.reduceNeg, Int.reduceAdd, Int.reduceSub, Int.le_refl]
    exact hK () _ _ trivial (copied (by simp [wkP, Ch.get, AV.ren, pi]))
  have hq20 := h.q20
  have hlb : q.left ≤ 20 := by
    rcases h.run c q hq with g | g <;> omega
  simp only [go_sem, Nat.reduceAdd, Nat.reduceSub, Nat.reduceMul, Nat.reduceEqDiff, Nat.reduceLeDiff, Nat.reduceLT, ↓reduceIte, Int.reduceToNat, reduceCtorEq, Int.cast_ofNat_Int, Int.reduceLT, Int.reduceLE, Int.reduceGT, Int.reduceGE, Int.reduceEq, Int.reduceNe, Int.reduceNeg, Int.reduceAdd, Int.reduceSub, Int.le_refl, S.heap, S.box, zcell, List.length_map, List.getElem?_map, hq, hcl, hcl2, Q.row, Int.natCast_nonneg]
  rcases Decidable.em (0 < q.left) with a1 | a1
  · have e1 : iw .i64 (q.left - 1) = q.left - 1 := by rw [iw64] <;> omega
    rw [if_pos a1] at hpost
    simp only [go_sem, Nat.reduceAdd, Nat.reduceSub, Nat.reduceMul, Nat.reduceEqDiff, Nat.reduceLeDiff, Nat.reduceLT, ↓reduceIte, Int.reduceToNat, reduceCtorEq, Int.cast_ofNat_Int, Int.reduceLT, Int.reduceLE, Int.reduceGT, Int.reduceGE, Int.reduceEq, Int.reduceNe, Int.reduceNeg, Int.reduceAdd, Int.reduceSub, Int.le_refl, a1, e1, List.length_map, List.getElem?_map, hq, hcl, hcl2, Q.row, Int.natCast_nonneg]
    subst hpost
    exact .dead 4 (ending (s' := s.setQ c { q with left := q.left - 1 }) (R := [s.box, .dead]) (by rw [S.setQ_heap]; rfl) (by simp [setQ_len]) rfl rfl (box_dead s) ⟨rfl, rfl⟩)
  · rw [if_neg a1] at hpost
    simp only [go_sem, Nat.reduceAdd, Nat.reduceSub, Nat.reduceMul, Nat.reduceEqDiff, Nat.reduceLeDiff, Nat.reduceLT, ↓reduceIte, Int.reduceToNat, reduceCtorEq, Int.cast_ofNat_Int, Int.reduceLT, Int.reduceLE, Int.reduceGT, Int.reduceGE, Int.reduceEq, Int.reduceNe, Int.reduceNeg, Int.reduceAdd, Int.reduceSub, Int.le_refl, a1]
    subst hpost
    exact .dead 4 (ending (s' := s) (R := [s.box, .dead]) rfl rfl rfl rfl (box_dead s) ⟨rfl, rfl⟩)
theorem YieldR_c (s : S) (h : s.Ok) (c : Nat) (q : Q) (hq : s.cpus[c]? = some q) :
    ACalls Try.prog 82 [s.av, iv c] [] (fun o H => o = .ret (s.setQ c { q with left := 0 }).av ∧ H = []) := by
  have hcl : c < s.cpus.length := (List.getElem?_eq_some_iff.1 hq).1
  have hcl2 : (c : Int) < s.cpus.length := by omega
  have hf := h.fit
  refine ACalls.up ?_
  refine ACalls.intro (cs := [2]) (n := 14) Try.func82 rfl rfl rfl (by kernel_rfl) rfl ?_
  generalize hpost : (fun (o : Out) (H : Heap) => o = Out.ret (s.setQ c { q with left := 0 }).av ∧ H = []) = post
  simp only [go_sem, Nat.reduceAdd, Nat.reduceSub, Nat.reduceMul, Nat.reduceEqDiff, Nat.reduceLeDiff, Nat.reduceLT, ↓reduceIte, Int.reduceToNat, reduceCtorEq, Int.cast_ofNat_Int, Int.reduceLT, Int.reduceLE, Int.reduceGT, Int.reduceGE, Int.reduceEq, Int.reduceNe, Int.reduceNeg, Int.reduceAdd, Int.reduceSub, Int.le_refl, S.av]
  refine seq_cut (fun _ : Unit => ((((Ch.nil.put 1 (iv c)).put 2 (.ptr 3 0 0)).put 4 (.ptr 4 0 0)).put 5 (.ptr 0 0 0))) (fun _ => s.heap [s.box, zcell]) (fun _ => True) (by kernel_rfl) (fun K hK => ?_) (fun _ _ => ?_)
  · simp only [go_sem, Nat.reduceAdd, Nat.reduceSub, Nat.reduceMul, Nat.reduceEqDiff, Nat.reduceLeDiff, Nat.reduceLT, ↓reduceIte, Int.reduceToNat, reduceCtorEq, Int.cast_ofNat_Int, Int.reduceLT, Int.reduceLE, Int.reduceGT, Int.reduceGE, Int.reduceEq, Int.reduceNe, Int.reduceNeg, Int.reduceAdd, Int.reduceSub, Int.le_refl]
    refine rK_use (enters_of Try.func92 rfl (by decide)) (Copy_u s hf _ 2 rfl) ?_
    simp only [go_sem, Nat.reduceAdd, Nat.reduceSub, Nat.reduceMul, Nat.reduceEqDiff, Nat.reduceLeDiff, Nat.reduceLT, ↓reduceIte, Int.reduceToNat, reduceCtorEq, Int.cast_ofNat_Int, Int.reduceLT, Int.reduceLE, Int.reduceGT, Int.reduceGE, Int.reduceEq, Int.reduceNe, Int.reduceNeg, Int.reduceAdd, Int.reduceSub, Int.le_refl]
    exact hK () _ _ trivial (copied (by simp [wkP, Ch.get, AV.ren, pi]))
  simp only [go_sem, Nat.reduceAdd, Nat.reduceSub, Nat.reduceMul, Nat.reduceEqDiff, Nat.reduceLeDiff, Nat.reduceLT, ↓reduceIte, Int.reduceToNat, reduceCtorEq, Int.cast_ofNat_Int, Int.reduceLT, Int.reduceLE, Int.reduceGT, Int.reduceGE, Int.reduceEq, Int.reduceNe, Int.reduceNeg, Int.reduceAdd, Int.reduceSub, Int.le_refl, S.heap, S.box, zcell, List.length_map, List.getElem?_map, hq, hcl, hcl2, Q.row, Int.natCast_nonneg]
  subst hpost
  exact .dead 4 (ending (s' := s.setQ c { q with left := 0 }) (R := [s.box, .dead]) (by rw [S.setQ_heap]; rfl) (by simp [setQ_len]) rfl rfl (box_dead s) ⟨rfl, rfl⟩)
end Go.Proofs.Ytljepmbikbdicaa
