/- Sched: an operation on a copy. No condition. -/
import Derived.Test.YtljepmbikbdicaaSA
import Derived.Test.YtljepmbikbdicaaKE
set_option maxRecDepth 100000
set_option linter.unusedVariables false
set_option linter.unusedSimpArgs false
namespace Go.Proofs.Ytljepmbikbdicaa
open Go.AM
def S.zero : S := ⟨[], [], 0⟩
theorem do_res : Try.f45.results.toList = [.cell 4 25, .cell 5 27] := rfl
theorem zero_le : LeV (.agg [.view true 0 [], .view true 0 [], iv 0]) S.zero.av :=
  .agg (.cons (.nil _ _ _ _ (by simp)) (.cons (.nil _ _ _ _ (by simp)) (.cons (.refl _) .nil)))
/-- What the walk needs of a valid state. -/
structure S.Fit (s : S) : Prop where
  c : s.cpus.length ≤ 4
  t : s.thr.length ≤ 16
  r : ∀ q ∈ s.cpus, q.ready.length ≤ 1000
theorem bfz_Q (l : List Q) (r sz : Nat) (ys : List (List AV)) : Blk.fz r sz ys (.rows 3 (l.map Q.row)) = .rows 3 (l.map Q.row) := bfz_pure (Q.rows_lt l 0)
theorem bfz_T (l : List T) (r sz : Nat) (ys : List (List AV)) : Blk.fz r sz ys (.rows 3 (l.map T.row)) = .rows 3 (l.map T.row) := bfz_pure (T.rows_lt l 0)
theorem bok_dead (r n : Nat) : Blk.fzOk r n .dead = True := rfl
theorem bok_T (l : List T) (r n : Nat) : Blk.fzOk r n (.rows 3 (l.map T.row)) := bfzOk_pure (T.rows_lt l 0)
theorem bfz_1 {x : AV} (hx : ∀ m, x.lt m = true) (r sz : Nat) (ys : List (List AV)) : Blk.fz r sz ys (.rows 1 [[x]]) = .rows 1 [[x]] := bfz_pure (by simp [ltL, hx])
theorem bok_1 {x : AV} (hx : ∀ m, x.lt m = true) (r n : Nat) : Blk.fzOk r n (.rows 1 [[x]]) := bfzOk_pure (by simp [ltL, hx])
theorem bren_1 {x : AV} (hx : ∀ m, x.lt m = true) (π : Nat → Nat) : Blk.ren π (.rows 1 [[x]]) = .rows 1 [[x]] := by simp [Blk.ren, ren_pure (hx 0)]
theorem Q.rows_pure (l : List Q) : ∀ row ∈ l.map Q.row, ∀ x ∈ row, x.pure = true := by
  intro row hr x hx
  obtain ⟨q, _, rfl⟩ := List.mem_map.1 hr
  simp [Q.row] at hx
  rcases hx with rfl | rfl | rfl <;> rfl
theorem T.rows_pure (l : List T) : ∀ row ∈ l.map T.row, ∀ x ∈ row, x.pure = true := by
  intro row hr x hx
  obtain ⟨q, _, rfl⟩ := List.mem_map.1 hr
  simp [T.row] at hx
  rcases hx with rfl | rfl | rfl <;> rfl

theorem do_n1 (s : S) (g : FuncId) (x0 : AV) (hx0 : ∀ m, x0.lt m = true) (hv : s.valid = false) : ACalls Try.prog 45 [s.av, .func (.func g) [] [.ptr 0 0 0]] [.rows 1 [[x0]]] (fun o H => o = .ret (.tuple [S.zero.av, iv 50]) ∧ H = [.rows 1 [[x0]]]) := by
  refine ACalls.up ?_
  refine ACalls.introD (n := 23) Try.func45 rfl (by kernel_rfl) rfl ?_
  refine DWp.seq (by kernel_rfl) ?_
  generalize hpost : (fun (o : Out) (H : Heap) => o = Out.ret (.tuple [S.zero.av, iv 50]) ∧ H = [.rows 1 [[x0]]]) = post
  simp only [go_sem, Nat.reduceAdd, Nat.reduceSub, Nat.reduceMul, Nat.reduceEqDiff, Nat.reduceLeDiff, Nat.reduceLT, ↓reduceIte, Int.reduceToNat, reduceCtorEq, S.av]
  refine DWp.seq (by kernel_rfl) ?_
  simp only [go_sem, Nat.reduceAdd, Nat.reduceSub, Nat.reduceMul, Nat.reduceEqDiff, Nat.reduceLeDiff, Nat.reduceLT, ↓reduceIte, Int.reduceToNat, reduceCtorEq]
  refine rK_use (enters_of Try.func51 rfl (by decide)) (ACalls.pure_use (valid_c s) rfl rfl) ?_
  simp only [go_sem, Nat.reduceAdd, Nat.reduceSub, Nat.reduceMul, Nat.reduceEqDiff, Nat.reduceLeDiff, Nat.reduceLT, ↓reduceIte, Int.reduceToNat, reduceCtorEq, hv, do_res]
  subst hpost
  refine .gc 1 (Nat.le_refl _) (by simp) (by simp [Out.lt, AV.lt, ltL]) (by simp [Blk.lt, ltL, hx0]) (.le (.ret (.tuple (.cons zero_le (.cons (.refl _) .nil)))) (LeH.refl _) (.done ⟨rfl, rfl⟩))

theorem do_r1 (s s' : S) (g : FuncId) (x0 y0 : AV) (hx0 : ∀ m, x0.lt m = true) (hy0 : ∀ m, y0.lt m = true) (hv : s.valid = true) (hf : s.Fit) (hE : Enters Try.prog g)
    (hg : ACalls Try.prog g [.ptr 0 0 0, .ptr 3 0 0] (s.heap [.rows 1 [[x0]]]) (fun o H => o = .ret (.tuple []) ∧ H = s'.heap [.rows 1 [[y0]]])) :
    ACalls Try.prog 45 [s.av, .func (.func g) [] [.ptr 0 0 0]] [.rows 1 [[x0]]] (fun o H => o = .ret (.tuple [s'.av, iv 0]) ∧ H = [.rows 1 [[y0]]]) := by
  refine ACalls.up ?_
  refine ACalls.introD (n := 23) Try.func45 rfl (by kernel_rfl) rfl ?_
  refine DWp.seq (by kernel_rfl) ?_
  generalize hpost : (fun (o : Out) (H : Heap) => o = Out.ret (.tuple [s'.av, iv 0]) ∧ H = [.rows 1 [[y0]]]) = post
  simp only [go_sem, Nat.reduceAdd, Nat.reduceSub, Nat.reduceMul, Nat.reduceEqDiff, Nat.reduceLeDiff, Nat.reduceLT, ↓reduceIte, Int.reduceToNat, reduceCtorEq, S.av]
  refine DWp.seq (by kernel_rfl) ?_
  simp only [go_sem, Nat.reduceAdd, Nat.reduceSub, Nat.reduceMul, Nat.reduceEqDiff, Nat.reduceLeDiff, Nat.reduceLT, ↓reduceIte, Int.reduceToNat, reduceCtorEq]
  refine rK_use (enters_of Try.func51 rfl (by decide)) (ACalls.pure_use (valid_c s) rfl rfl) ?_
  simp only [go_sem, Nat.reduceAdd, Nat.reduceSub, Nat.reduceMul, Nat.reduceEqDiff, Nat.reduceLeDiff, Nat.reduceLT, ↓reduceIte, Int.reduceToNat, reduceCtorEq, hv]
  refine DWp.defer (by kernel_rfl) rfl (by kernel_rfl) (by kernel_rfl) ?_
  simp only [go_sem, Nat.reduceAdd, Nat.reduceSub, Nat.reduceMul, Nat.reduceEqDiff, Nat.reduceLeDiff, Nat.reduceLT, ↓reduceIte, Int.reduceToNat, reduceCtorEq]
  refine ⟨(enters_of Try.func84 rfl (by decide)), fun d => ?_⟩
  refine rK_use (enters_of Try.func85 rfl (by decide)) (clone_u s hf.c hf.t hf.r _ 4 rfl) ?_
  simp only [go_sem, Nat.reduceAdd, Nat.reduceSub, Nat.reduceMul, Nat.reduceEqDiff, Nat.reduceLeDiff, Nat.reduceLT, ↓reduceIte, Int.reduceToNat, reduceCtorEq]
  refine rK_use hE (hg.useE [10, 7, 9, 0] (.tuple []) [.rows 1 [[y0]], .rows 3 [[.view false 3 (s.cpus.map Q.row), .view false 3 (s.thr.map T.row), iv s.quantum]], .rows 3 [[.view true 0 [], .view true 0 [], iv 0]], .rows 1 [[iv 0]],
    .rows 3 [[.sl 7 0 s.cpus.length none, .sl 9 0 s.thr.length none, iv s.quantum]], .rows 3 [[.sl 7 0 s.cpus.length none, .sl 9 0 s.thr.length none, iv s.quantum]], .dead, .rows 3 (s'.cpus.map Q.row), .dead, .rows 3 (s'.thr.map T.row), .rows 3 [[.sl 7 0 s'.cpus.length none, .sl 9 0 s'.thr.length none, iv s'.quantum]]]
    (by simp) rfl (by simp) ?_ (by simp [AV.ren, pi]) rfl ?_) ?_
  · simp only [S.heap, List.map_cons, List.map_nil, bren_Q, bren_T]
    simp [Blk.ren, AV.ren, pi, ren_pure (hx0 0)]
  · simp only [S.heap, patch, List.map_cons, List.map_nil, bren_Q, bren_T]
    simp [setMany, Blk.ren, AV.ren, pi, ren_pure (hy0 0)]
  simp only [go_sem, Nat.reduceAdd, Nat.reduceSub, Nat.reduceMul, Nat.reduceEqDiff, Nat.reduceLeDiff, Nat.reduceLT, ↓reduceIte, Int.reduceToNat, reduceCtorEq]
  refine ADef.intro (n := 14) Try.func84 rfl rfl (by kernel_rfl) rfl (by kernel_rfl) ?_
  simp only [go_sem, Nat.reduceAdd, Nat.reduceSub, Nat.reduceMul, Nat.reduceEqDiff, Nat.reduceLeDiff, Nat.reduceLT, ↓reduceIte, Int.reduceToNat, reduceCtorEq, do_res]
  subst hpost
  refine Up.kill [1, 2, 3, 4, 5, 10] _ ?_
  simp only [kill, List.set_cons_zero, List.set_cons_succ]
  refine .fz 7 3 (s'.cpus.map Q.row) rfl (Q.rows_pure _) (by simp [Out.fzOk, AV.fzOk, fzOkL]) ?_ ?_
  · simp only [List.set_cons_zero, List.set_cons_succ, List.forall_mem_cons, bok_T, bok_1 hy0, bok_dead, true_and, and_true, List.not_mem_nil, false_implies, implies_true]
  simp only [Out.fz, AV.fz, fzL, List.set_cons_zero, List.set_cons_succ, List.map_cons, List.map_nil, bfz_T, bfz_1 hy0]
  simp only [Blk.fz, if_true, if_false, List.drop_zero, Nat.reduceEqDiff, reduceIte]
  rw [List.take_of_length_le (by simp)]
  refine .fz 9 3 (s'.thr.map T.row) rfl (T.rows_pure _) (by simp [Out.fzOk, AV.fzOk, fzOkL]) ?_ ?_
  · simp only [List.set_cons_zero, List.set_cons_succ, List.forall_mem_cons, bok_T, bok_1 hy0, bok_dead, true_and, and_true, List.not_mem_nil, false_implies, implies_true]
  simp only [Out.fz, AV.fz, fzL, List.set_cons_zero, List.set_cons_succ, List.map_cons, List.map_nil, bfz_T, bfz_1 hy0]
  simp only [Blk.fz, if_true, if_false, List.drop_zero, Nat.reduceEqDiff, reduceIte]
  rw [List.take_of_length_le (by simp)]
  refine .gc 1 (Nat.le_refl _) (by simp) (by simp [Out.lt, AV.lt, ltL]) (by simp [Blk.lt, ltL, hy0]) (.done ⟨rfl, rfl⟩)

theorem do_p1 (s : S) (e : Int) (g : FuncId) (x0 y0 : AV) (hx0 : ∀ m, x0.lt m = true) (hy0 : ∀ m, y0.lt m = true) (hv : s.valid = true) (hf : s.Fit) (hE : Enters Try.prog g)
    (hg : ACalls Try.prog g [.ptr 0 0 0, .ptr 3 0 0] (s.heap [.rows 1 [[x0]]]) (fun o H => o = .pan (refuse e) ∧ H = [.dead, .dead, .dead, .rows 1 [[y0]]])) :
    ACalls Try.prog 45 [s.av, .func (.func g) [] [.ptr 0 0 0]] [.rows 1 [[x0]]] (fun o H => o = .ret (.tuple [S.zero.av, iv e]) ∧ H = [.rows 1 [[y0]]]) := by
  refine ACalls.up ?_
  refine ACalls.introD (n := 23) Try.func45 rfl (by kernel_rfl) rfl ?_
  refine DWp.seq (by kernel_rfl) ?_
  generalize hpost : (fun (o : Out) (H : Heap) => o = Out.ret (.tuple [S.zero.av, iv e]) ∧ H = [.rows 1 [[y0]]]) = post
  simp only [go_sem, Nat.reduceAdd, Nat.reduceSub, Nat.reduceMul, Nat.reduceEqDiff, Nat.reduceLeDiff, Nat.reduceLT, ↓reduceIte, Int.reduceToNat, reduceCtorEq, S.av]
  refine DWp.seq (by kernel_rfl) ?_
  simp only [go_sem, Nat.reduceAdd, Nat.reduceSub, Nat.reduceMul, Nat.reduceEqDiff, Nat.reduceLeDiff, Nat.reduceLT, ↓reduceIte, Int.reduceToNat, reduceCtorEq]
  refine rK_use (enters_of Try.func51 rfl (by decide)) (ACalls.pure_use (valid_c s) rfl rfl) ?_
  simp only [go_sem, Nat.reduceAdd, Nat.reduceSub, Nat.reduceMul, Nat.reduceEqDiff, Nat.reduceLeDiff, Nat.reduceLT, ↓reduceIte, Int.reduceToNat, reduceCtorEq, hv]
  refine DWp.defer (by kernel_rfl) rfl (by kernel_rfl) (by kernel_rfl) ?_
  simp only [go_sem, Nat.reduceAdd, Nat.reduceSub, Nat.reduceMul, Nat.reduceEqDiff, Nat.reduceLeDiff, Nat.reduceLT, ↓reduceIte, Int.reduceToNat, reduceCtorEq]
  refine ⟨(enters_of Try.func84 rfl (by decide)), fun d => ?_⟩
  refine rK_use (enters_of Try.func85 rfl (by decide)) (clone_u s hf.c hf.t hf.r _ 4 rfl) ?_
  simp only [go_sem, Nat.reduceAdd, Nat.reduceSub, Nat.reduceMul, Nat.reduceEqDiff, Nat.reduceLeDiff, Nat.reduceLT, ↓reduceIte, Int.reduceToNat, reduceCtorEq]
  refine rK_pans hE (hg.panE [10, 7, 9, 0] (refuse e) [.rows 1 [[y0]], .rows 3 [[.view false 3 (s.cpus.map Q.row), .view false 3 (s.thr.map T.row), iv s.quantum]], .rows 3 [[.view true 0 [], .view true 0 [], iv 0]], .rows 1 [[iv 0]],
    .rows 3 [[.sl 7 0 s.cpus.length none, .sl 9 0 s.thr.length none, iv s.quantum]], .rows 3 [[.sl 7 0 s.cpus.length none, .sl 9 0 s.thr.length none, iv s.quantum]], .dead, .dead, .dead, .dead, .dead]
    (by simp) rfl (by simp) ?_ (by simp [AV.ren, pi]) rfl ?_) ?_
  · simp only [S.heap, List.map_cons, List.map_nil, bren_Q, bren_T]
    simp [Blk.ren, AV.ren, pi, ren_pure (hx0 0)]
  · simp [patch, setMany, Blk.ren, ren_pure (hy0 0)]
  simp only [go_sem, Nat.reduceAdd, Nat.reduceSub, Nat.reduceMul, Nat.reduceEqDiff, Nat.reduceLeDiff, Nat.reduceLT, ↓reduceIte, Int.reduceToNat, reduceCtorEq]
  refine ADef.intro (n := 14) Try.func84 rfl rfl (by kernel_rfl) rfl (by kernel_rfl) ?_
  simp only [go_sem, Nat.reduceAdd, Nat.reduceSub, Nat.reduceMul, Nat.reduceEqDiff, Nat.reduceLeDiff, Nat.reduceLT, ↓reduceIte, Int.reduceToNat, reduceCtorEq, do_res, refuse]
  refine draw [.qu 0 0, .qu 0 1, .rd 0 1, .mn 0, .mn 1] (by kernel_rfl) (by kernel_rfl) ?_
  simp only [go_sem, Nat.reduceAdd, Nat.reduceSub, Nat.reduceMul, Nat.reduceEqDiff, Nat.reduceLeDiff, Nat.reduceLT, ↓reduceIte, Int.reduceToNat, reduceCtorEq, do_res, refuse]
  subst hpost
  refine .gc 1 (Nat.le_refl _) (by simp) (by simp [Out.lt, AV.lt, ltL]) (by simp [Blk.lt, ltL, hy0]) (.le (.ret (.tuple (.cons zero_le (.cons (.refl _) .nil)))) (LeH.refl _) (.done ⟨rfl, rfl⟩))

theorem do_n2 (s : S) (g : FuncId) (x0 x1 : AV) (hx0 : ∀ m, x0.lt m = true) (hx1 : ∀ m, x1.lt m = true) (hv : s.valid = false) : ACalls Try.prog 45 [s.av, .func (.func g) [] [.ptr 0 0 0, .ptr 1 0 0]] [.rows 1 [[x0]], .rows 1 [[x1]]] (fun o H => o = .ret (.tuple [S.zero.av, iv 50]) ∧ H = [.rows 1 [[x0]], .rows 1 [[x1]]]) := by
  refine ACalls.up ?_
  refine ACalls.introD (n := 23) Try.func45 rfl (by kernel_rfl) rfl ?_
  refine DWp.seq (by kernel_rfl) ?_
  generalize hpost : (fun (o : Out) (H : Heap) => o = Out.ret (.tuple [S.zero.av, iv 50]) ∧ H = [.rows 1 [[x0]], .rows 1 [[x1]]]) = post
  simp only [go_sem, Nat.reduceAdd, Nat.reduceSub, Nat.reduceMul, Nat.reduceEqDiff, Nat.reduceLeDiff, Nat.reduceLT, ↓reduceIte, Int.reduceToNat, reduceCtorEq, S.av]
  refine DWp.seq (by kernel_rfl) ?_
  simp only [go_sem, Nat.reduceAdd, Nat.reduceSub, Nat.reduceMul, Nat.reduceEqDiff, Nat.reduceLeDiff, Nat.reduceLT, ↓reduceIte, Int.reduceToNat, reduceCtorEq]
  refine rK_use (enters_of Try.func51 rfl (by decide)) (ACalls.pure_use (valid_c s) rfl rfl) ?_
  simp only [go_sem, Nat.reduceAdd, Nat.reduceSub, Nat.reduceMul, Nat.reduceEqDiff, Nat.reduceLeDiff, Nat.reduceLT, ↓reduceIte, Int.reduceToNat, reduceCtorEq, hv, do_res]
  subst hpost
  refine .gc 2 (Nat.le_refl _) (by simp) (by simp [Out.lt, AV.lt, ltL]) (by simp [Blk.lt, ltL, hx0, hx1]) (.le (.ret (.tuple (.cons zero_le (.cons (.refl _) .nil)))) (LeH.refl _) (.done ⟨rfl, rfl⟩))

theorem do_r2 (s s' : S) (g : FuncId) (x0 x1 y0 y1 : AV) (hx0 : ∀ m, x0.lt m = true) (hx1 : ∀ m, x1.lt m = true) (hy0 : ∀ m, y0.lt m = true) (hy1 : ∀ m, y1.lt m = true) (hv : s.valid = true) (hf : s.Fit) (hE : Enters Try.prog g)
    (hg : ACalls Try.prog g [.ptr 0 0 0, .ptr 3 0 0, .ptr 4 0 0] (s.heap [.rows 1 [[x0]], .rows 1 [[x1]]]) (fun o H => o = .ret (.tuple []) ∧ H = s'.heap [.rows 1 [[y0]], .rows 1 [[y1]]])) :
    ACalls Try.prog 45 [s.av, .func (.func g) [] [.ptr 0 0 0, .ptr 1 0 0]] [.rows 1 [[x0]], .rows 1 [[x1]]] (fun o H => o = .ret (.tuple [s'.av, iv 0]) ∧ H = [.rows 1 [[y0]], .rows 1 [[y1]]]) := by
  refine ACalls.up ?_
  refine ACalls.introD (n := 23) Try.func45 rfl (by kernel_rfl) rfl ?_
  refine DWp.seq (by kernel_rfl) ?_
  generalize hpost : (fun (o : Out) (H : Heap) => o = Out.ret (.tuple [s'.av, iv 0]) ∧ H = [.rows 1 [[y0]], .rows 1 [[y1]]]) = post
  simp only [go_sem, Nat.reduceAdd, Nat.reduceSub, Nat.reduceMul, Nat.reduceEqDiff, Nat.reduceLeDiff, Nat.reduceLT, ↓reduceIte, Int.reduceToNat, reduceCtorEq, S.av]
  refine DWp.seq (by kernel_rfl) ?_
  simp only [go_sem, Nat.reduceAdd, Nat.reduceSub, Nat.reduceMul, Nat.reduceEqDiff, Nat.reduceLeDiff, Nat.reduceLT, ↓reduceIte, Int.reduceToNat, reduceCtorEq]
  refine rK_use (enters_of Try.func51 rfl (by decide)) (ACalls.pure_use (valid_c s) rfl rfl) ?_
  simp only [go_sem, Nat.reduceAdd, Nat.reduceSub, Nat.reduceMul, Nat.reduceEqDiff, Nat.reduceLeDiff, Nat.reduceLT, ↓reduceIte, Int.reduceToNat, reduceCtorEq, hv]
  refine DWp.defer (by kernel_rfl) rfl (by kernel_rfl) (by kernel_rfl) ?_
  simp only [go_sem, Nat.reduceAdd, Nat.reduceSub, Nat.reduceMul, Nat.reduceEqDiff, Nat.reduceLeDiff, Nat.reduceLT, ↓reduceIte, Int.reduceToNat, reduceCtorEq]
  refine ⟨(enters_of Try.func84 rfl (by decide)), fun d => ?_⟩
  refine rK_use (enters_of Try.func85 rfl (by decide)) (clone_u s hf.c hf.t hf.r _ 5 rfl) ?_
  simp only [go_sem, Nat.reduceAdd, Nat.reduceSub, Nat.reduceMul, Nat.reduceEqDiff, Nat.reduceLeDiff, Nat.reduceLT, ↓reduceIte, Int.reduceToNat, reduceCtorEq]
  refine rK_use hE (hg.useE [11, 8, 10, 0, 1] (.tuple []) [.rows 1 [[y0]], .rows 1 [[y1]], .rows 3 [[.view false 3 (s.cpus.map Q.row), .view false 3 (s.thr.map T.row), iv s.quantum]], .rows 3 [[.view true 0 [], .view true 0 [], iv 0]], .rows 1 [[iv 0]],
    .rows 3 [[.sl 8 0 s.cpus.length none, .sl 10 0 s.thr.length none, iv s.quantum]], .rows 3 [[.sl 8 0 s.cpus.length none, .sl 10 0 s.thr.length none, iv s.quantum]], .dead, .rows 3 (s'.cpus.map Q.row), .dead, .rows 3 (s'.thr.map T.row), .rows 3 [[.sl 8 0 s'.cpus.length none, .sl 10 0 s'.thr.length none, iv s'.quantum]]]
    (by simp) rfl (by simp) ?_ (by simp [AV.ren, pi]) rfl ?_) ?_
  · simp only [S.heap, List.map_cons, List.map_nil, bren_Q, bren_T]
    simp [Blk.ren, AV.ren, pi, ren_pure (hx0 0), ren_pure (hx1 0)]
  · simp only [S.heap, patch, List.map_cons, List.map_nil, bren_Q, bren_T]
    simp [setMany, Blk.ren, AV.ren, pi, ren_pure (hy0 0), ren_pure (hy1 0)]
  simp only [go_sem, Nat.reduceAdd, Nat.reduceSub, Nat.reduceMul, Nat.reduceEqDiff, Nat.reduceLeDiff, Nat.reduceLT, ↓reduceIte, Int.reduceToNat, reduceCtorEq]
  refine ADef.intro (n := 14) Try.func84 rfl rfl (by kernel_rfl) rfl (by kernel_rfl) ?_
  simp only [go_sem, Nat.reduceAdd, Nat.reduceSub, Nat.reduceMul, Nat.reduceEqDiff, Nat.reduceLeDiff, Nat.reduceLT, ↓reduceIte, Int.reduceToNat, reduceCtorEq, do_res]
  subst hpost
  refine Up.kill [2, 3, 4, 5, 6, 11] _ ?_
  simp only [kill, List.set_cons_zero, List.set_cons_succ]
  refine .fz 8 3 (s'.cpus.map Q.row) rfl (Q.rows_pure _) (by simp [Out.fzOk, AV.fzOk, fzOkL]) ?_ ?_
  · simp only [List.set_cons_zero, List.set_cons_succ, List.forall_mem_cons, bok_T, bok_1 hy0, bok_1 hy1, bok_dead, true_and, and_true, List.not_mem_nil, false_implies, implies_true]
  simp only [Out.fz, AV.fz, fzL, List.set_cons_zero, List.set_cons_succ, List.map_cons, List.map_nil, bfz_T, bfz_1 hy0, bfz_1 hy1]
  simp only [Blk.fz, if_true, if_false, List.drop_zero, Nat.reduceEqDiff, reduceIte]
  rw [List.take_of_length_le (by simp)]
  refine .fz 10 3 (s'.thr.map T.row) rfl (T.rows_pure _) (by simp [Out.fzOk, AV.fzOk, fzOkL]) ?_ ?_
  · simp only [List.set_cons_zero, List.set_cons_succ, List.forall_mem_cons, bok_T, bok_1 hy0, bok_1 hy1, bok_dead, true_and, and_true, List.not_mem_nil, false_implies, implies_true]
  simp only [Out.fz, AV.fz, fzL, List.set_cons_zero, List.set_cons_succ, List.map_cons, List.map_nil, bfz_T, bfz_1 hy0, bfz_1 hy1]
  simp only [Blk.fz, if_true, if_false, List.drop_zero, Nat.reduceEqDiff, reduceIte]
  rw [List.take_of_length_le (by simp)]
  refine .gc 2 (Nat.le_refl _) (by simp) (by simp [Out.lt, AV.lt, ltL]) (by simp [Blk.lt, ltL, hy0, hy1]) (.done ⟨rfl, rfl⟩)

theorem do_p2 (s : S) (e : Int) (g : FuncId) (x0 x1 y0 y1 : AV) (hx0 : ∀ m, x0.lt m = true) (hx1 : ∀ m, x1.lt m = true) (hy0 : ∀ m, y0.lt m = true) (hy1 : ∀ m, y1.lt m = true) (hv : s.valid = true) (hf : s.Fit) (hE : Enters Try.prog g)
    (hg : ACalls Try.prog g [.ptr 0 0 0, .ptr 3 0 0, .ptr 4 0 0] (s.heap [.rows 1 [[x0]], .rows 1 [[x1]]]) (fun o H => o = .pan (refuse e) ∧ H = [.dead, .dead, .dead, .rows 1 [[y0]], .rows 1 [[y1]]])) :
    ACalls Try.prog 45 [s.av, .func (.func g) [] [.ptr 0 0 0, .ptr 1 0 0]] [.rows 1 [[x0]], .rows 1 [[x1]]] (fun o H => o = .ret (.tuple [S.zero.av, iv e]) ∧ H = [.rows 1 [[y0]], .rows 1 [[y1]]]) := by
  refine ACalls.up ?_
  refine ACalls.introD (n := 23) Try.func45 rfl (by kernel_rfl) rfl ?_
  refine DWp.seq (by kernel_rfl) ?_
  generalize hpost : (fun (o : Out) (H : Heap) => o = Out.ret (.tuple [S.zero.av, iv e]) ∧ H = [.rows 1 [[y0]], .rows 1 [[y1]]]) = post
  simp only [go_sem, Nat.reduceAdd, Nat.reduceSub, Nat.reduceMul, Nat.reduceEqDiff, Nat.reduceLeDiff, Nat.reduceLT, ↓reduceIte, Int.reduceToNat, reduceCtorEq, S.av]
  refine DWp.seq (by kernel_rfl) ?_
  simp only [go_sem, Nat.reduceAdd, Nat.reduceSub, Nat.reduceMul, Nat.reduceEqDiff, Nat.reduceLeDiff, Nat.reduceLT, ↓reduceIte, Int.reduceToNat, reduceCtorEq]
  refine rK_use (enters_of Try.func51 rfl (by decide)) (ACalls.pure_use (valid_c s) rfl rfl) ?_
  simp only [go_sem, Nat.reduceAdd, Nat.reduceSub, Nat.reduceMul, Nat.reduceEqDiff, Nat.reduceLeDiff, Nat.reduceLT, ↓reduceIte, Int.reduceToNat, reduceCtorEq, hv]
  refine DWp.defer (by kernel_rfl) rfl (by kernel_rfl) (by kernel_rfl) ?_
  simp only [go_sem, Nat.reduceAdd, Nat.reduceSub, Nat.reduceMul, Nat.reduceEqDiff, Nat.reduceLeDiff, Nat.reduceLT, ↓reduceIte, Int.reduceToNat, reduceCtorEq]
  refine ⟨(enters_of Try.func84 rfl (by decide)), fun d => ?_⟩
  refine rK_use (enters_of Try.func85 rfl (by decide)) (clone_u s hf.c hf.t hf.r _ 5 rfl) ?_
  simp only [go_sem, Nat.reduceAdd, Nat.reduceSub, Nat.reduceMul, Nat.reduceEqDiff, Nat.reduceLeDiff, Nat.reduceLT, ↓reduceIte, Int.reduceToNat, reduceCtorEq]
  refine rK_pans hE (hg.panE [11, 8, 10, 0, 1] (refuse e) [.rows 1 [[y0]], .rows 1 [[y1]], .rows 3 [[.view false 3 (s.cpus.map Q.row), .view false 3 (s.thr.map T.row), iv s.quantum]], .rows 3 [[.view true 0 [], .view true 0 [], iv 0]], .rows 1 [[iv 0]],
    .rows 3 [[.sl 8 0 s.cpus.length none, .sl 10 0 s.thr.length none, iv s.quantum]], .rows 3 [[.sl 8 0 s.cpus.length none, .sl 10 0 s.thr.length none, iv s.quantum]], .dead, .dead, .dead, .dead, .dead]
    (by simp) rfl (by simp) ?_ (by simp [AV.ren, pi]) rfl ?_) ?_
  · simp only [S.heap, List.map_cons, List.map_nil, bren_Q, bren_T]
    simp [Blk.ren, AV.ren, pi, ren_pure (hx0 0), ren_pure (hx1 0)]
  · simp [patch, setMany, Blk.ren, ren_pure (hy0 0), ren_pure (hy1 0)]
  simp only [go_sem, Nat.reduceAdd, Nat.reduceSub, Nat.reduceMul, Nat.reduceEqDiff, Nat.reduceLeDiff, Nat.reduceLT, ↓reduceIte, Int.reduceToNat, reduceCtorEq]
  refine ADef.intro (n := 14) Try.func84 rfl rfl (by kernel_rfl) rfl (by kernel_rfl) ?_
  simp only [go_sem, Nat.reduceAdd, Nat.reduceSub, Nat.reduceMul, Nat.reduceEqDiff, Nat.reduceLeDiff, Nat.reduceLT, ↓reduceIte, Int.reduceToNat, reduceCtorEq, do_res, refuse]
  refine draw [.qu 0 0, .qu 0 1, .rd 0 1, .mn 0, .mn 1] (by kernel_rfl) (by kernel_rfl) ?_
  simp only [go_sem, Nat.reduceAdd, Nat.reduceSub, Nat.reduceMul, Nat.reduceEqDiff, Nat.reduceLeDiff, Nat.reduceLT, ↓reduceIte, Int.reduceToNat, reduceCtorEq, do_res, refuse]
  subst hpost
  refine .gc 2 (Nat.le_refl _) (by simp) (by simp [Out.lt, AV.lt, ltL]) (by simp [Blk.lt, ltL, hy0, hy1]) (.le (.ret (.tuple (.cons zero_le (.cons (.refl _) .nil)))) (LeH.refl _) (.done ⟨rfl, rfl⟩))

theorem do_n3 (s : S) (g : FuncId) (x0 x1 x2 : AV) (hx0 : ∀ m, x0.lt m = true) (hx1 : ∀ m, x1.lt m = true) (hx2 : ∀ m, x2.lt m = true) (hv : s.valid = false) : ACalls Try.prog 45 [s.av, .func (.func g) [] [.ptr 0 0 0, .ptr 1 0 0, .ptr 2 0 0]] [.rows 1 [[x0]], .rows 1 [[x1]], .rows 1 [[x2]]] (fun o H => o = .ret (.tuple [S.zero.av, iv 50]) ∧ H = [.rows 1 [[x0]], .rows 1 [[x1]], .rows 1 [[x2]]]) := by
  refine ACalls.up ?_
  refine ACalls.introD (n := 23) Try.func45 rfl (by kernel_rfl) rfl ?_
  refine DWp.seq (by kernel_rfl) ?_
  generalize hpost : (fun (o : Out) (H : Heap) => o = Out.ret (.tuple [S.zero.av, iv 50]) ∧ H = [.rows 1 [[x0]], .rows 1 [[x1]], .rows 1 [[x2]]]) = post
  simp only [go_sem, Nat.reduceAdd, Nat.reduceSub, Nat.reduceMul, Nat.reduceEqDiff, Nat.reduceLeDiff, Nat.reduceLT, ↓reduceIte, Int.reduceToNat, reduceCtorEq, S.av]
  refine DWp.seq (by kernel_rfl) ?_
  simp only [go_sem, Nat.reduceAdd, Nat.reduceSub, Nat.reduceMul, Nat.reduceEqDiff, Nat.reduceLeDiff, Nat.reduceLT, ↓reduceIte, Int.reduceToNat, reduceCtorEq]
  refine rK_use (enters_of Try.func51 rfl (by decide)) (ACalls.pure_use (valid_c s) rfl rfl) ?_
  simp only [go_sem, Nat.reduceAdd, Nat.reduceSub, Nat.reduceMul, Nat.reduceEqDiff, Nat.reduceLeDiff, Nat.reduceLT, ↓reduceIte, Int.reduceToNat, reduceCtorEq, hv, do_res]
  subst hpost
  refine .gc 3 (Nat.le_refl _) (by simp) (by simp [Out.lt, AV.lt, ltL]) (by simp [Blk.lt, ltL, hx0, hx1, hx2]) (.le (.ret (.tuple (.cons zero_le (.cons (.refl _) .nil)))) (LeH.refl _) (.done ⟨rfl, rfl⟩))

theorem do_r3 (s s' : S) (g : FuncId) (x0 x1 x2 y0 y1 y2 : AV) (hx0 : ∀ m, x0.lt m = true) (hx1 : ∀ m, x1.lt m = true) (hx2 : ∀ m, x2.lt m = true) (hy0 : ∀ m, y0.lt m = true) (hy1 : ∀ m, y1.lt m = true) (hy2 : ∀ m, y2.lt m = true) (hv : s.valid = true) (hf : s.Fit) (hE : Enters Try.prog g)
    (hg : ACalls Try.prog g [.ptr 0 0 0, .ptr 3 0 0, .ptr 4 0 0, .ptr 5 0 0] (s.heap [.rows 1 [[x0]], .rows 1 [[x1]], .rows 1 [[x2]]]) (fun o H => o = .ret (.tuple []) ∧ H = s'.heap [.rows 1 [[y0]], .rows 1 [[y1]], .rows 1 [[y2]]])) :
    ACalls Try.prog 45 [s.av, .func (.func g) [] [.ptr 0 0 0, .ptr 1 0 0, .ptr 2 0 0]] [.rows 1 [[x0]], .rows 1 [[x1]], .rows 1 [[x2]]] (fun o H => o = .ret (.tuple [s'.av, iv 0]) ∧ H = [.rows 1 [[y0]], .rows 1 [[y1]], .rows 1 [[y2]]]) := by
  refine ACalls.up ?_
  refine ACalls.introD (n := 23) Try.func45 rfl (by kernel_rfl) rfl ?_
  refine DWp.seq (by kernel_rfl) ?_
  generalize hpost : (fun (o : Out) (H : Heap) => o = Out.ret (.tuple [s'.av, iv 0]) ∧ H = [.rows 1 [[y0]], .rows 1 [[y1]], .rows 1 [[y2]]]) = post
  simp only [go_sem, Nat.reduceAdd, Nat.reduceSub, Nat.reduceMul, Nat.reduceEqDiff, Nat.reduceLeDiff, Nat.reduceLT, ↓reduceIte, Int.reduceToNat, reduceCtorEq, S.av]
  refine DWp.seq (by kernel_rfl) ?_
  simp only [go_sem, Nat.reduceAdd, Nat.reduceSub, Nat.reduceMul, Nat.reduceEqDiff, Nat.reduceLeDiff, Nat.reduceLT, ↓reduceIte, Int.reduceToNat, reduceCtorEq]
  refine rK_use (enters_of Try.func51 rfl (by decide)) (ACalls.pure_use (valid_c s) rfl rfl) ?_
  simp only [go_sem, Nat.reduceAdd, Nat.reduceSub, Nat.reduceMul, Nat.reduceEqDiff, Nat.reduceLeDiff, Nat.reduceLT, ↓reduceIte, Int.reduceToNat, reduceCtorEq, hv]
  refine DWp.defer (by kernel_rfl) rfl (by kernel_rfl) (by kernel_rfl) ?_
  simp only [go_sem, Nat.reduceAdd, Nat.reduceSub, Nat.reduceMul, Nat.reduceEqDiff, Nat.reduceLeDiff, Nat.reduceLT, ↓reduceIte, Int.reduceToNat, reduceCtorEq]
  refine ⟨(enters_of Try.func84 rfl (by decide)), fun d => ?_⟩
  refine rK_use (enters_of Try.func85 rfl (by decide)) (clone_u s hf.c hf.t hf.r _ 6 rfl) ?_
  simp only [go_sem, Nat.reduceAdd, Nat.reduceSub, Nat.reduceMul, Nat.reduceEqDiff, Nat.reduceLeDiff, Nat.reduceLT, ↓reduceIte, Int.reduceToNat, reduceCtorEq]
  refine rK_use hE (hg.useE [12, 9, 11, 0, 1, 2] (.tuple []) [.rows 1 [[y0]], .rows 1 [[y1]], .rows 1 [[y2]], .rows 3 [[.view false 3 (s.cpus.map Q.row), .view false 3 (s.thr.map T.row), iv s.quantum]], .rows 3 [[.view true 0 [], .view true 0 [], iv 0]], .rows 1 [[iv 0]],
    .rows 3 [[.sl 9 0 s.cpus.length none, .sl 11 0 s.thr.length none, iv s.quantum]], .rows 3 [[.sl 9 0 s.cpus.length none, .sl 11 0 s.thr.length none, iv s.quantum]], .dead, .rows 3 (s'.cpus.map Q.row), .dead, .rows 3 (s'.thr.map T.row), .rows 3 [[.sl 9 0 s'.cpus.length none, .sl 11 0 s'.thr.length none, iv s'.quantum]]]
    (by simp) rfl (by simp) ?_ (by simp [AV.ren, pi]) rfl ?_) ?_
  · simp only [S.heap, List.map_cons, List.map_nil, bren_Q, bren_T]
    simp [Blk.ren, AV.ren, pi, ren_pure (hx0 0), ren_pure (hx1 0), ren_pure (hx2 0)]
  · simp only [S.heap, patch, List.map_cons, List.map_nil, bren_Q, bren_T]
    simp [setMany, Blk.ren, AV.ren, pi, ren_pure (hy0 0), ren_pure (hy1 0), ren_pure (hy2 0)]
  simp only [go_sem, Nat.reduceAdd, Nat.reduceSub, Nat.reduceMul, Nat.reduceEqDiff, Nat.reduceLeDiff, Nat.reduceLT, ↓reduceIte, Int.reduceToNat, reduceCtorEq]
  refine ADef.intro (n := 14) Try.func84 rfl rfl (by kernel_rfl) rfl (by kernel_rfl) ?_
  simp only [go_sem, Nat.reduceAdd, Nat.reduceSub, Nat.reduceMul, Nat.reduceEqDiff, Nat.reduceLeDiff, Nat.reduceLT, ↓reduceIte, Int.reduceToNat, reduceCtorEq, do_res]
  subst hpost
  refine Up.kill [3, 4, 5, 6, 7, 12] _ ?_
  simp only [kill, List.set_cons_zero, List.set_cons_succ]
  refine .fz 9 3 (s'.cpus.map Q.row) rfl (Q.rows_pure _) (by simp [Out.fzOk, AV.fzOk, fzOkL]) ?_ ?_
  · simp only [List.set_cons_zero, List.set_cons_succ, List.forall_mem_cons, bok_T, bok_1 hy0, bok_1 hy1, bok_1 hy2, bok_dead, true_and, and_true, List.not_mem_nil, false_implies, implies_true]
  simp only [Out.fz, AV.fz, fzL, List.set_cons_zero, List.set_cons_succ, List.map_cons, List.map_nil, bfz_T, bfz_1 hy0, bfz_1 hy1, bfz_1 hy2]
  simp only [Blk.fz, if_true, if_false, List.drop_zero, Nat.reduceEqDiff, reduceIte]
  rw [List.take_of_length_le (by simp)]
  refine .fz 11 3 (s'.thr.map T.row) rfl (T.rows_pure _) (by simp [Out.fzOk, AV.fzOk, fzOkL]) ?_ ?_
  · simp only [List.set_cons_zero, List.set_cons_succ, List.forall_mem_cons, bok_T, bok_1 hy0, bok_1 hy1, bok_1 hy2, bok_dead, true_and, and_true, List.not_mem_nil, false_implies, implies_true]
  simp only [Out.fz, AV.fz, fzL, List.set_cons_zero, List.set_cons_succ, List.map_cons, List.map_nil, bfz_T, bfz_1 hy0, bfz_1 hy1, bfz_1 hy2]
  simp only [Blk.fz, if_true, if_false, List.drop_zero, Nat.reduceEqDiff, reduceIte]
  rw [List.take_of_length_le (by simp)]
  refine .gc 3 (Nat.le_refl _) (by simp) (by simp [Out.lt, AV.lt, ltL]) (by simp [Blk.lt, ltL, hy0, hy1, hy2]) (.done ⟨rfl, rfl⟩)

theorem do_p3 (s : S) (e : Int) (g : FuncId) (x0 x1 x2 y0 y1 y2 : AV) (hx0 : ∀ m, x0.lt m = true) (hx1 : ∀ m, x1.lt m = true) (hx2 : ∀ m, x2.lt m = true) (hy0 : ∀ m, y0.lt m = true) (hy1 : ∀ m, y1.lt m = true) (hy2 : ∀ m, y2.lt m = true) (hv : s.valid = true) (hf : s.Fit) (hE : Enters Try.prog g)
    (hg : ACalls Try.prog g [.ptr 0 0 0, .ptr 3 0 0, .ptr 4 0 0, .ptr 5 0 0] (s.heap [.rows 1 [[x0]], .rows 1 [[x1]], .rows 1 [[x2]]]) (fun o H => o = .pan (refuse e) ∧ H = [.dead, .dead, .dead, .rows 1 [[y0]], .rows 1 [[y1]], .rows 1 [[y2]]])) :
    ACalls Try.prog 45 [s.av, .func (.func g) [] [.ptr 0 0 0, .ptr 1 0 0, .ptr 2 0 0]] [.rows 1 [[x0]], .rows 1 [[x1]], .rows 1 [[x2]]] (fun o H => o = .ret (.tuple [S.zero.av, iv e]) ∧ H = [.rows 1 [[y0]], .rows 1 [[y1]], .rows 1 [[y2]]]) := by
  refine ACalls.up ?_
  refine ACalls.introD (n := 23) Try.func45 rfl (by kernel_rfl) rfl ?_
  refine DWp.seq (by kernel_rfl) ?_
  generalize hpost : (fun (o : Out) (H : Heap) => o = Out.ret (.tuple [S.zero.av, iv e]) ∧ H = [.rows 1 [[y0]], .rows 1 [[y1]], .rows 1 [[y2]]]) = post
  simp only [go_sem, Nat.reduceAdd, Nat.reduceSub, Nat.reduceMul, Nat.reduceEqDiff, Nat.reduceLeDiff, Nat.reduceLT, ↓reduceIte, Int.reduceToNat, reduceCtorEq, S.av]
  refine DWp.seq (by kernel_rfl) ?_
  simp only [go_sem, Nat.reduceAdd, Nat.reduceSub, Nat.reduceMul, Nat.reduceEqDiff, Nat.reduceLeDiff, Nat.reduceLT, ↓reduceIte, Int.reduceToNat, reduceCtorEq]
  refine rK_use (enters_of Try.func51 rfl (by decide)) (ACalls.pure_use (valid_c s) rfl rfl) ?_
  simp only [go_sem, Nat.reduceAdd, Nat.reduceSub, Nat.reduceMul, Nat.reduceEqDiff, Nat.reduceLeDiff, Nat.reduceLT, ↓reduceIte, Int.reduceToNat, reduceCtorEq, hv]
  refine DWp.defer (by kernel_rfl) rfl (by kernel_rfl) (by kernel_rfl) ?_
  simp only [go_sem, Nat.reduceAdd, Nat.reduceSub, Nat.reduceMul, Nat.reduceEqDiff, Nat.reduceLeDiff, Nat.reduceLT, ↓reduceIte, Int.reduceToNat, reduceCtorEq]
  refine ⟨(enters_of Try.func84 rfl (by decide)), fun d => ?_⟩
  refine rK_use (enters_of Try.func85 rfl (by decide)) (clone_u s hf.c hf.t hf.r _ 6 rfl) ?_
  simp only [go_sem, Nat.reduceAdd, Nat.reduceSub, Nat.reduceMul, Nat.reduceEqDiff, Nat.reduceLeDiff, Nat.reduceLT, ↓reduceIte, Int.reduceToNat, reduceCtorEq]
  refine rK_pans hE (hg.panE [12, 9, 11, 0, 1, 2] (refuse e) [.rows 1 [[y0]], .rows 1 [[y1]], .rows 1 [[y2]], .rows 3 [[.view false 3 (s.cpus.map Q.row), .view false 3 (s.thr.map T.row), iv s.quantum]], .rows 3 [[.view true 0 [], .view true 0 [], iv 0]], .rows 1 [[iv 0]],
    .rows 3 [[.sl 9 0 s.cpus.length none, .sl 11 0 s.thr.length none, iv s.quantum]], .rows 3 [[.sl 9 0 s.cpus.length none, .sl 11 0 s.thr.length none, iv s.quantum]], .dead, .dead, .dead, .dead, .dead]
    (by simp) rfl (by simp) ?_ (by simp [AV.ren, pi]) rfl ?_) ?_
  · simp only [S.heap, List.map_cons, List.map_nil, bren_Q, bren_T]
    simp [Blk.ren, AV.ren, pi, ren_pure (hx0 0), ren_pure (hx1 0), ren_pure (hx2 0)]
  · simp [patch, setMany, Blk.ren, ren_pure (hy0 0), ren_pure (hy1 0), ren_pure (hy2 0)]
  simp only [go_sem, Nat.reduceAdd, Nat.reduceSub, Nat.reduceMul, Nat.reduceEqDiff, Nat.reduceLeDiff, Nat.reduceLT, ↓reduceIte, Int.reduceToNat, reduceCtorEq]
  refine ADef.intro (n := 14) Try.func84 rfl rfl (by kernel_rfl) rfl (by kernel_rfl) ?_
  simp only [go_sem, Nat.reduceAdd, Nat.reduceSub, Nat.reduceMul, Nat.reduceEqDiff, Nat.reduceLeDiff, Nat.reduceLT, ↓reduceIte, Int.reduceToNat, reduceCtorEq, do_res, refuse]
  refine draw [.qu 0 0, .qu 0 1, .rd 0 1, .mn 0, .mn 1] (by kernel_rfl) (by kernel_rfl) ?_
  simp only [go_sem, Nat.reduceAdd, Nat.reduceSub, Nat.reduceMul, Nat.reduceEqDiff, Nat.reduceLeDiff, Nat.reduceLT, ↓reduceIte, Int.reduceToNat, reduceCtorEq, do_res, refuse]
  subst hpost
  refine .gc 3 (Nat.le_refl _) (by simp) (by simp [Out.lt, AV.lt, ltL]) (by simp [Blk.lt, ltL, hy0, hy1, hy2]) (.le (.ret (.tuple (.cons zero_le (.cons (.refl _) .nil)))) (LeH.refl _) (.done ⟨rfl, rfl⟩))
end Go.Proofs.Ytljepmbikbdicaa

set_option maxRecDepth 100000
set_option linter.unusedVariables false
set_option linter.unusedSimpArgs false
namespace Go.Proofs.Ytljepmbikbdicaa
open Go.AM
theorem wuse {P : Program} {f : FuncId} {args : List AV} {s s' : S} {v : AV} {R : Heap} (hc : ACalls P f args (s.heap []) fun o H => o = .ret v ∧ H = s'.heap []) (ha : ltL 3 args = true) (hv : v.lt 3 = true) :
    ACalls P f args (s.heap R) fun o H => o = .ret v ∧ H = s'.heap R :=
  ACalls.frame (H0 := s.heap []) (H0' := s'.heap []) (R := R) hc ha hv s.heap_lt s'.heap_lt rfl
theorem wpan {P : Program} {f : FuncId} {args : List AV} {s s' : S} {v : AV} {R : Heap} (hc : ACalls P f args (s.heap []) fun o H => o = .pan v ∧ H = s'.heap []) (ha : ltL 3 args = true) (hv : v.lt 3 = true) :
    ACalls P f args (s.heap R) fun o H => o = .pan v ∧ H = s'.heap R :=
  ACalls.framep (H0 := s.heap []) (H0' := s'.heap []) (R := R) hc ha hv s.heap_lt s'.heap_lt rfl
structure S.Ok (s : S) : Prop where
  c1 : 1 ≤ s.cpus.length
  c4 : s.cpus.length ≤ 4
  t16 : s.thr.length ≤ 16
  q1 : 1 ≤ s.quantum
  q20 : s.quantum ≤ 20
  thr : ∀ t ∈ s.thr, 0 ≤ t.pri ∧ t.pri ≤ 7 ∧ 0 ≤ t.cpu ∧ t.cpu < s.cpus.length ∧ 1 ≤ t.st ∧ t.st ≤ 4
  run : ∀ (c : Nat) q, s.cpus[c]? = some q → (q.run = -1 ∧ q.left = 0) ∨ (s.is q.run c 2 = true ∧ 0 ≤ q.left ∧ q.left ≤ s.quantum)
  rdy : ∀ (c : Nat) q, s.cpus[c]? = some q → (∀ x ∈ q.ready, s.is x c 1 = true) ∧ q.ready.Nodup ∧ q.ready.Pairwise (fun x y => s.pri y ≤ s.pri x)
  allr : ∀ (i : Nat) t, s.thr[i]? = some t → t.st = 1 → ∃ q, s.cpus[t.cpu.toNat]? = some q ∧ (i : Int) ∈ q.ready
  allrun : ∀ (i : Nat) t, s.thr[i]? = some t → t.st = 2 → ∃ q, s.cpus[t.cpu.toNat]? = some q ∧ q.run = i
theorem S.Ok.fit {s : S} (h : s.Ok) : s.Fit where
  c := h.c4
  t := h.t16
  r := fun q hq => by
    obtain ⟨c, hc, e⟩ := List.getElem_of_mem hq
    have hr := h.rdy c q (by rw [List.getElem?_eq_getElem hc, e])
    have := pigeon s.thr.length q.ready hr.2.1 fun y hy => S.is_lt (hr.1 y hy)
    have := h.t16
    omega
theorem S.Ok.at {s : S} (h : s.Ok) {i : Nat} {t : T} (ht : s.thr[i]? = some t) : ∃ q, s.cpus[t.cpu.toNat]? = some q ∧ 0 ≤ t.cpu ∧ (∀ x ∈ q.ready, 0 ≤ x ∧ x < s.thr.length) ∧ q.ready.length ≤ 1000 := by
  have h1 := h.thr t (List.mem_of_getElem? ht)
  obtain ⟨q, hq⟩ : ∃ q, s.cpus[t.cpu.toNat]? = some q := at_lt (by omega)
  exact ⟨q, hq, h1.2.2.1, fun x hx => S.is_lt ((h.rdy _ q hq).1 x hx), h.fit.r q (List.mem_of_getElem? hq)⟩
def S.setSt (s : S) (i : Nat) (st : Int) : S := match s.thr[i]? with
  | none => s
  | some t => { s with thr := s.thr.set i { t with st := st } }
theorem bfz0 {r sz : Nat} {ys : List (List AV)} : ∀ {b : Blk}, b.lt 0 → b.fz r sz ys = b
  | .dead, _ => rfl
  | .rows z xs, h => bfz_pure h
  | .amap es, h => by
    rw [Blk.fz]
    congr 1
    conv => rhs; rw [← List.map_id' es]
    exact List.map_congr_left fun e he => by rw [fz_pure (h e he)]
theorem bok0 {r n : Nat} : ∀ {b : Blk}, b.lt 0 → b.fzOk r n
  | .dead, _ => trivial
  | .rows z xs, h => bfzOk_pure h
  | .amap es, h => fun e he => fzOk_pure (h e he)
theorem thread_u (s : S) (i : Nat) (t : T) (l : List Int) (cap : Option Nat) (ht : s.thr[i]? = some t) (Rb : Heap) (hR : ∀ b ∈ Rb, b.lt 0) (r n : Nat) (hr : r = 3 + Rb.length) (hn : n = l.length) (o' : Out) (ho : o' = if t.st ∈ l then .ret (.ptr 2 i 0) else .pan (refuse 51)) :
    ACalls Try.prog 57 [.ptr 0 0 0, iv i, .sl r 0 n cap] (s.heap (Rb ++ [.rows 1 (l.map r1)])) (fun o H => o = o' ∧ H = s.heap (Rb ++ [.dead])) := by
  subst hr hn
  have hset : (s.heap (Rb ++ [.rows 1 (l.map r1)])).set (3 + Rb.length) .dead = s.heap (Rb ++ [.dead]) := by
    rw [Nat.add_comm]
    simp [S.heap]
  have hget : (s.heap (Rb ++ [.rows 1 (l.map r1)]))[3 + Rb.length]? = some (.rows 1 (l.map r1)) := by
    rw [Nat.add_comm]
    simp [S.heap]
  refine ACalls.pre_fz (3 + Rb.length) hget (r1_pure l) ?_ ?_ ?_
  · simp [fzOkL, AV.fzOk]
  · rw [hset]
    intro b hb
    simp only [S.heap, List.mem_cons, List.mem_append, List.not_mem_nil, or_false] at hb
    rcases hb with rfl | rfl | rfl | hb | rfl
    · simp [Blk.fzOk, fzOkL, AV.fzOk]; omega
    · exact bfzOk_pure (Q.rows_lt _ 0)
    · exact bfzOk_pure (T.rows_lt _ 0)
    · exact bok0 (hR b hb)
    · trivial
  · have hh : ((s.heap (Rb ++ [.rows 1 (l.map r1)])).set (3 + Rb.length) .dead).map (Blk.fz (3 + Rb.length) 1 (l.map r1)) = s.heap (Rb ++ [.dead]) := by
      rw [hset]
      have e1 : Rb.map (Blk.fz (3 + Rb.length) 1 (l.map r1)) = Rb := by
        conv => rhs; rw [← List.map_id' Rb]
        exact List.map_congr_left fun b hb => bfz0 (hR b hb)
      simp only [S.heap, List.map_cons, List.map_append, List.map_nil, e1, bfz_Q, bfz_T]
      simp [Blk.fz, AV.fz]
      omega
    have ha : fzL (3 + Rb.length) 1 (l.map r1) [.ptr 0 0 0, iv i, .sl (3 + Rb.length) 0 l.length cap] = [.ptr 0 0 0, iv i, .view false 1 (l.map r1)] := by
      simp only [fzL, AV.fz, if_true, List.drop_zero]
      rw [List.take_of_length_le (by simp)]
    rw [hh, ha, ho]
    have := thread_ok s i t l false ht
    split
    · rename_i hm
      rw [if_pos hm] at this
      exact wuse this (by simp [ltL, AV.lt]) (by simp [AV.lt])
    · rename_i hm
      rw [if_neg hm] at this
      exact wpan this (by simp [ltL, AV.lt]) (by simp [AV.lt, refuse, ltL])
theorem thread_n (s : S) (i : Int) (l : List Int) (cap : Option Nat) (hi : ¬ (0 ≤ i ∧ i < s.thr.length)) (Rb : Heap) (hR : ∀ b ∈ Rb, b.lt 0) (r n : Nat) (hr : r = 3 + Rb.length) (hn : n = l.length) :
    ACalls Try.prog 57 [.ptr 0 0 0, iv i, .sl r 0 n cap] (s.heap (Rb ++ [.rows 1 (l.map r1)])) (fun o H => o = .pan (refuse 51) ∧ H = s.heap (Rb ++ [.dead])) := by
  subst hr hn
  have hset : (s.heap (Rb ++ [.rows 1 (l.map r1)])).set (3 + Rb.length) .dead = s.heap (Rb ++ [.dead]) := by
    rw [Nat.add_comm]
    simp [S.heap]
  have hget : (s.heap (Rb ++ [.rows 1 (l.map r1)]))[3 + Rb.length]? = some (.rows 1 (l.map r1)) := by
    rw [Nat.add_comm]
    simp [S.heap]
  refine ACalls.pre_fz (3 + Rb.length) hget (r1_pure l) ?_ ?_ ?_
  · simp [fzOkL, AV.fzOk]
  · rw [hset]
    intro b hb
    simp only [S.heap, List.mem_cons, List.mem_append, List.not_mem_nil, or_false] at hb
    rcases hb with rfl | rfl | rfl | hb | rfl
    · simp [Blk.fzOk, fzOkL, AV.fzOk]; omega
    · exact bfzOk_pure (Q.rows_lt _ 0)
    · exact bfzOk_pure (T.rows_lt _ 0)
    · exact bok0 (hR b hb)
    · trivial
  · have hh : ((s.heap (Rb ++ [.rows 1 (l.map r1)])).set (3 + Rb.length) .dead).map (Blk.fz (3 + Rb.length) 1 (l.map r1)) = s.heap (Rb ++ [.dead]) := by
      rw [hset]
      have e1 : Rb.map (Blk.fz (3 + Rb.length) 1 (l.map r1)) = Rb := by
        conv => rhs; rw [← List.map_id' Rb]
        exact List.map_congr_left fun b hb => bfz0 (hR b hb)
      simp only [S.heap, List.map_cons, List.map_append, List.map_nil, e1, bfz_Q, bfz_T]
      simp [Blk.fz, AV.fz]
      omega
    have ha : fzL (3 + Rb.length) 1 (l.map r1) [.ptr 0 0 0, iv i, .sl (3 + Rb.length) 0 l.length cap] = [.ptr 0 0 0, iv i, .view false 1 (l.map r1)] := by
      simp only [fzL, AV.fz, if_true, List.drop_zero]
      rw [List.take_of_length_le (by simp)]
    rw [hh, ha]
    exact wpan (thread_no s i l false hi) (by simp [ltL, AV.lt]) (by simp [AV.lt, refuse, ltL])
theorem S.take_thr (s : S) (i : Nat) : (s.take i).thr = s.thr := by
  unfold S.take
  split
  · rfl
  · split <;> rfl
theorem S.take_q (s : S) (i : Nat) : (s.take i).quantum = s.quantum := by
  unfold S.take
  split
  · rfl
  · split <;> rfl
theorem Up.drop {s : S} {R H : Heap} {v : AV} {m : Nat} {Q : CQ} (hm : m = 3 + R.length) (hR : ∀ b ∈ R, b.lt 0) (hv : v.lt 0 = true) (hl : m ≤ H.length) (he : H.take m = s.heap R) (hq : Q (.ret v) (s.heap R)) : Up m Q (.ret v) H := by
  subst hm
  refine .gc (3 + R.length) (Nat.le_refl _) hl ?_ ?_ (.done (by rw [he]; exact hq))
  · exact lt_le (Nat.zero_le _) hv
  · rw [he]
    intro b hb
    have : s.heap R = s.heap [] ++ R := rfl
    rw [this] at hb
    rcases List.mem_append.1 hb with h | h
    · exact blt_le (by omega) (s.heap_lt b h)
    · exact blt_le (Nat.zero_le _) (hR b h)
def S.th (s : S) (n : Int) : Option T := if 0 ≤ n then s.thr[n.toNat]? else none
def S.cp (s : S) (n : Int) : Option Q := if 0 ≤ n then s.cpus[n.toNat]? else none
theorem S.th_some {s : S} {n : Int} {t : T} (h : s.th n = some t) : ∃ i : Nat, n = i ∧ s.thr[i]? = some t := by
  unfold S.th at h
  split at h
  · exact ⟨n.toNat, by omega, h⟩
  · cases h
theorem S.th_none {s : S} {n : Int} (h : s.th n = none) : ¬ (0 ≤ n ∧ n < s.thr.length) := by
  unfold S.th at h
  split at h
  · rw [List.getElem?_eq_none_iff] at h; omega
  · omega
theorem S.cp_some {s : S} {n : Int} {q : Q} (h : s.cp n = some q) : ∃ i : Nat, n = i ∧ s.cpus[i]? = some q := by
  unfold S.cp at h
  split at h
  · exact ⟨n.toNat, by omega, h⟩
  · cases h
theorem S.cp_none {s : S} {n : Int} (h : s.cp n = none) : ¬ (0 ≤ n ∧ n < s.cpus.length) := by
  unfold S.cp at h
  split at h
  · rw [List.getElem?_eq_none_iff] at h; omega
  · omega
theorem cpu_ok (s : S) (c : Nat) (q : Q) (hq : s.cpus[c]? = some q) : ACalls Try.prog 47 [.ptr 0 0 0, iv c] (s.heap []) (fun o H => o = .ret (.ptr 1 c 0) ∧ H = s.heap []) := by
  have := (List.getElem?_eq_some_iff.1 hq).1
  have h := cpu_c s c
  rw [if_pos (by omega)] at h
  exact h
theorem cpu_no (s : S) (n : Int) (hn : ¬ (0 ≤ n ∧ n < s.cpus.length)) : ACalls Try.prog 47 [.ptr 0 0 0, iv n] (s.heap []) (fun o H => o = .pan (refuse 52) ∧ H = s.heap []) := by
  have h := cpu_c s n
  rw [if_neg hn] at h
  exact h
/-- What an operation's closure does. -/
def Clo (g : FuncId) (s : S) (R : Heap) (caps : List AV) (res : Option S) (e : Int) (R' : Heap) : Prop := match res with
  | some s' => ACalls Try.prog g (.ptr 0 0 0 :: caps) (s.heap R) (fun o H => o = .ret (.tuple []) ∧ H = s'.heap R')
  | none => ACalls Try.prog g (.ptr 0 0 0 :: caps) (s.heap R) (fun o H => o = .pan (refuse e) ∧ H = .dead :: .dead :: .dead :: R')
theorem Up.dropp {a b c : Blk} {R rest H : Heap} {e : Int} {m : Nat} {Q : CQ} (hm : m = 3 + R.length) (hR : ∀ b ∈ R, b.lt 0) (he : H = a :: b :: c :: (R ++ rest)) (hq : Q (.pan (refuse e)) (.dead :: .dead :: .dead :: R)) : Up m Q (.pan (refuse e)) H := by
  subst hm he
  refine Up.kill [0, 1, 2] _ ?_
  simp only [kill, List.set_cons_zero, List.set_cons_succ]
  have he : List.take (3 + R.length) (Blk.dead :: Blk.dead :: Blk.dead :: (R ++ rest)) = .dead :: .dead :: .dead :: R := by
    rw [Nat.add_comm]; simp
  refine .gc (3 + R.length) (Nat.le_refl _) (by simp; omega) ?_ ?_ (.done (by rw [he]; exact hq))
  · simp [Out.lt, refuse, AV.lt, ltL]
  · rw [he]
    intro b hb
    simp only [List.mem_cons] at hb
    rcases hb with rfl | rfl | rfl | h
    · trivial
    · trivial
    · trivial
    · exact blt_le (Nat.zero_le _) (hR b h)
theorem S.setSt_eq {s : S} {i : Nat} {t : T} (ht : s.thr[i]? = some t) (st : Int) : s.setSt i st = { s with thr := s.thr.set i { t with st := st } } := by simp only [S.setSt, ht]
theorem S.setSt_heap {s : S} {i : Nat} {t : T} (ht : s.thr[i]? = some t) (st : Int) (R : Heap) : (s.setSt i st).heap R = [.rows 3 [[.sl 1 0 s.cpus.length none, .sl 2 0 s.thr.length none, iv s.quantum]], .rows 3 (s.cpus.map Q.row), .rows 3 ((s.thr.map T.row).set i [iv t.pri, iv t.cpu, iv st])] ++ R := by
  rw [S.setSt_eq ht, S.heap, List.map_set, List.length_set]
  rfl

def S.eEnd (s : S) (n : Int) : Option S := match s.th n with
  | some t => if t.st ∈ [1, 2, 3] then some ((s.take n.toNat).setSt n.toNat 4) else none
  | none => none
theorem End_clo (s : S) (h : s.Ok) (n : Int) : Clo 56 s [.rows 1 [[iv n]]] [.ptr 3 0 0] (s.eEnd n) 51 [.rows 1 [[iv n]]] := by
  unfold S.eEnd
  have hR : ∀ b ∈ [Blk.rows 1 [[iv n]]], b.lt 0 := by simp [Blk.lt, ltL, AV.lt]
  cases ht : s.th n with
  | none =>
    refine ACalls.up ?_
    refine ACalls.intro (cs := []) (n := 14) Try.func56 rfl rfl rfl (by kernel_rfl) rfl ?_
    generalize hpost : (fun (o : Out) (H : Heap) => o = Out.pan (refuse 51) ∧ _) = post
    simp only [go_sem, Nat.reduceAdd, Nat.reduceSub, Nat.reduceMul, Nat.reduceEqDiff, Nat.reduceLeDiff, Nat.reduceLT, ↓reduceIte, Int.reduceToNat, reduceCtorEq, S.heap]
    refine rK_pans (enters_of Try.func57 rfl (by decide)) (thread_n s n [1, 2, 3] _ (S.th_none ht) [.rows 1 [[iv n]]] hR 4 3 rfl rfl) ?_
    simp only [go_sem, Nat.reduceAdd, Nat.reduceSub, Nat.reduceMul, Nat.reduceEqDiff, Nat.reduceLeDiff, Nat.reduceLT, ↓reduceIte, Int.reduceToNat, reduceCtorEq]
    subst hpost
    exact Up.dropp (R := [.rows 1 [[iv n]]]) rfl hR rfl ⟨rfl, rfl⟩
  | some t =>
    obtain ⟨i, rfl, ht⟩ := S.th_some ht
    simp only [Int.toNat_natCast]
    by_cases hst : t.st ∈ [1, 2, 3]
    · rw [if_pos hst]
      refine ACalls.up ?_
      refine ACalls.intro (cs := []) (n := 14) Try.func56 rfl rfl rfl (by kernel_rfl) rfl ?_
      generalize hpost : (fun (o : Out) (H : Heap) => o = Out.ret (.tuple []) ∧ _) = post
      simp only [go_sem, Nat.reduceAdd, Nat.reduceSub, Nat.reduceMul, Nat.reduceEqDiff, Nat.reduceLeDiff, Nat.reduceLT, ↓reduceIte, Int.reduceToNat, reduceCtorEq, S.heap]
      refine rK_use (enters_of Try.func57 rfl (by decide)) (thread_u s i t [1, 2, 3] _ ht [.rows 1 [[iv i]]] hR 4 3 rfl rfl _ (by rw [if_pos hst])) ?_
      simp only [go_sem, Nat.reduceAdd, Nat.reduceSub, Nat.reduceMul, Nat.reduceEqDiff, Nat.reduceLeDiff, Nat.reduceLT, ↓reduceIte, Int.reduceToNat, reduceCtorEq, S.heap]
      obtain ⟨q, hq, hq1, hq2, hq3⟩ := h.at ht
      refine rK_use (enters_of Try.func58 rfl (by decide)) (wuse (R := [.rows 1 [[iv i]], .dead]) (take_c s i t q ht hq1 hq hq3) (by simp [ltL, AV.lt]) rfl) ?_
      have ht2 : (s.take i).thr[i]? = some t := by rw [S.take_thr]; exact ht
      have hlt : i < (s.take i).thr.length := (List.getElem?_eq_some_iff.1 ht2).1
      simp only [go_sem, Nat.reduceAdd, Nat.reduceSub, Nat.reduceMul, Nat.reduceEqDiff, Nat.reduceLeDiff, Nat.reduceLT, ↓reduceIte, Int.reduceToNat, reduceCtorEq, S.heap, List.length_map, List.getElem?_map, ht2, hlt, T.row]
      subst hpost
      exact Up.drop (s := (s.take i).setSt i 4) (R := [.rows 1 [[iv i]]]) rfl hR rfl (by simp) (by rw [S.setSt_heap ht2]; rfl) ⟨rfl, rfl⟩
    · rw [if_neg hst]
      refine ACalls.up ?_
      refine ACalls.intro (cs := []) (n := 14) Try.func56 rfl rfl rfl (by kernel_rfl) rfl ?_
      generalize hpost : (fun (o : Out) (H : Heap) => o = Out.pan (refuse 51) ∧ _) = post
      simp only [go_sem, Nat.reduceAdd, Nat.reduceSub, Nat.reduceMul, Nat.reduceEqDiff, Nat.reduceLeDiff, Nat.reduceLT, ↓reduceIte, Int.reduceToNat, reduceCtorEq, S.heap]
      refine rK_pans (enters_of Try.func57 rfl (by decide)) (thread_u s i t [1, 2, 3] _ ht [.rows 1 [[iv i]]] hR 4 3 rfl rfl _ (by rw [if_neg hst])) ?_
      simp only [go_sem, Nat.reduceAdd, Nat.reduceSub, Nat.reduceMul, Nat.reduceEqDiff, Nat.reduceLeDiff, Nat.reduceLT, ↓reduceIte, Int.reduceToNat, reduceCtorEq]
      subst hpost
      exact Up.dropp (R := [.rows 1 [[iv i]]]) rfl hR rfl ⟨rfl, rfl⟩

def S.eBlock (s : S) (n : Int) : Option S := match s.th n with
  | some t => if t.st ∈ [1, 2] then some ((s.take n.toNat).setSt n.toNat 3) else none
  | none => none
theorem Block_clo (s : S) (h : s.Ok) (n : Int) : Clo 59 s [.rows 1 [[iv n]]] [.ptr 3 0 0] (s.eBlock n) 51 [.rows 1 [[iv n]]] := by
  unfold S.eBlock
  have hR : ∀ b ∈ [Blk.rows 1 [[iv n]]], b.lt 0 := by simp [Blk.lt, ltL, AV.lt]
  cases ht : s.th n with
  | none =>
    refine ACalls.up ?_
    refine ACalls.intro (cs := []) (n := 14) Try.func59 rfl rfl rfl (by kernel_rfl) rfl ?_
    generalize hpost : (fun (o : Out) (H : Heap) => o = Out.pan (refuse 51) ∧ _) = post
    simp only [go_sem, Nat.reduceAdd, Nat.reduceSub, Nat.reduceMul, Nat.reduceEqDiff, Nat.reduceLeDiff, Nat.reduceLT, ↓reduceIte, Int.reduceToNat, reduceCtorEq, S.heap]
    refine rK_pans (enters_of Try.func57 rfl (by decide)) (thread_n s n [1, 2] _ (S.th_none ht) [.rows 1 [[iv n]]] hR 4 2 rfl rfl) ?_
    simp only [go_sem, Nat.reduceAdd, Nat.reduceSub, Nat.reduceMul, Nat.reduceEqDiff, Nat.reduceLeDiff, Nat.reduceLT, ↓reduceIte, Int.reduceToNat, reduceCtorEq]
    subst hpost
    exact Up.dropp (R := [.rows 1 [[iv n]]]) rfl hR rfl ⟨rfl, rfl⟩
  | some t =>
    obtain ⟨i, rfl, ht⟩ := S.th_some ht
    simp only [Int.toNat_natCast]
    by_cases hst : t.st ∈ [1, 2]
    · rw [if_pos hst]
      refine ACalls.up ?_
      refine ACalls.intro (cs := []) (n := 14) Try.func59 rfl rfl rfl (by kernel_rfl) rfl ?_
      generalize hpost : (fun (o : Out) (H : Heap) => o = Out.ret (.tuple []) ∧ _) = post
      simp only [go_sem, Nat.reduceAdd, Nat.reduceSub, Nat.reduceMul, Nat.reduceEqDiff, Nat.reduceLeDiff, Nat.reduceLT, ↓reduceIte, Int.reduceToNat, reduceCtorEq, S.heap]
      refine rK_use (enters_of Try.func57 rfl (by decide)) (thread_u s i t [1, 2] _ ht [.rows 1 [[iv i]]] hR 4 2 rfl rfl _ (by rw [if_pos hst])) ?_
      simp only [go_sem, Nat.reduceAdd, Nat.reduceSub, Nat.reduceMul, Nat.reduceEqDiff, Nat.reduceLeDiff, Nat.reduceLT, ↓reduceIte, Int.reduceToNat, reduceCtorEq, S.heap]
      obtain ⟨q, hq, hq1, hq2, hq3⟩ := h.at ht
      refine rK_use (enters_of Try.func58 rfl (by decide)) (wuse (R := [.rows 1 [[iv i]], .dead]) (take_c s i t q ht hq1 hq hq3) (by simp [ltL, AV.lt]) rfl) ?_
      have ht2 : (s.take i).thr[i]? = some t := by rw [S.take_thr]; exact ht
      have hlt : i < (s.take i).thr.length := (List.getElem?_eq_some_iff.1 ht2).1
      simp only [go_sem, Nat.reduceAdd, Nat.reduceSub, Nat.reduceMul, Nat.reduceEqDiff, Nat.reduceLeDiff, Nat.reduceLT, ↓reduceIte, Int.reduceToNat, reduceCtorEq, S.heap, List.length_map, List.getElem?_map, ht2, hlt, T.row]
      subst hpost
      exact Up.drop (s := (s.take i).setSt i 3) (R := [.rows 1 [[iv i]]]) rfl hR rfl (by simp) (by rw [S.setSt_heap ht2]; rfl) ⟨rfl, rfl⟩
    · rw [if_neg hst]
      refine ACalls.up ?_
      refine ACalls.intro (cs := []) (n := 14) Try.func59 rfl rfl rfl (by kernel_rfl) rfl ?_
      generalize hpost : (fun (o : Out) (H : Heap) => o = Out.pan (refuse 51) ∧ _) = post
      simp only [go_sem, Nat.reduceAdd, Nat.reduceSub, Nat.reduceMul, Nat.reduceEqDiff, Nat.reduceLeDiff, Nat.reduceLT, ↓reduceIte, Int.reduceToNat, reduceCtorEq, S.heap]
      refine rK_pans (enters_of Try.func57 rfl (by decide)) (thread_u s i t [1, 2] _ ht [.rows 1 [[iv i]]] hR 4 2 rfl rfl _ (by rw [if_neg hst])) ?_
      simp only [go_sem, Nat.reduceAdd, Nat.reduceSub, Nat.reduceMul, Nat.reduceEqDiff, Nat.reduceLeDiff, Nat.reduceLT, ↓reduceIte, Int.reduceToNat, reduceCtorEq]
      subst hpost
      exact Up.dropp (R := [.rows 1 [[iv i]]]) rfl hR rfl ⟨rfl, rfl⟩
end Go.Proofs.Ytljepmbikbdicaa

set_option maxRecDepth 100000
set_option linter.unusedVariables false
set_option linter.unusedSimpArgs false
namespace Go.Proofs.Ytljepmbikbdicaa
open Go.AM
def S.setQ (s : S) (c : Nat) (q : Q) : S := { s with cpus := s.cpus.set c q }
theorem S.setQ_heap (s : S) (c : Nat) (q : Q) (R : Heap) : (s.setQ c q).heap R = [.rows 3 [[.sl 1 0 s.cpus.length none, .sl 2 0 s.thr.length none, iv s.quantum]], .rows 3 ((s.cpus.map Q.row).set c q.row), .rows 3 (s.thr.map T.row)] ++ R := by
  rw [S.setQ, S.heap, List.map_set, List.length_set]
  rfl
def S.eYield (s : S) (n : Int) : Option S := match s.cp n with
  | some q => if 0 ≤ q.run then some (s.setQ n.toNat { q with left := 0 }) else none
  | none => none
theorem Yield_clo (s : S) (h : s.Ok) (n : Int) : Clo 77 s [.rows 1 [[iv n]]] [.ptr 3 0 0] (s.eYield n) 52 [.rows 1 [[iv n]]] := by
  unfold S.eYield
  have hR : ∀ b ∈ [Blk.rows 1 [[iv n]]], b.lt 0 := by simp [Blk.lt, ltL, AV.lt]
  cases hqc : s.cp n with
  | none =>
    refine ACalls.up ?_
    refine ACalls.intro (cs := []) (n := 16) Try.func77 rfl rfl rfl (by kernel_rfl) rfl ?_
    generalize hpost : (fun (o : Out) (H : Heap) => o = Out.pan (refuse 52) ∧ _) = post
    simp only [go_sem, Nat.reduceAdd, Nat.reduceSub, Nat.reduceMul, Nat.reduceEqDiff, Nat.reduceLeDiff, Nat.reduceLT, ↓reduceIte, Int.reduceToNat, reduceCtorEq, S.heap]
    refine rK_pans (enters_of Try.func47 rfl (by decide)) (wpan (R := [.rows 1 [[iv n]]]) (cpu_no s n (S.cp_none hqc)) (by simp [ltL, AV.lt]) rfl) ?_
    simp only [go_sem, Nat.reduceAdd, Nat.reduceSub, Nat.reduceMul, Nat.reduceEqDiff, Nat.reduceLeDiff, Nat.reduceLT, ↓reduceIte, Int.reduceToNat, reduceCtorEq]
    subst hpost
    exact Up.dropp (R := [.rows 1 [[iv n]]]) (rest := []) rfl hR rfl ⟨rfl, rfl⟩
  | some q =>
    obtain ⟨i, rfl, hq⟩ := S.cp_some hqc
    have hlt : i < s.cpus.length := (List.getElem?_eq_some_iff.1 hq).1
    simp only [Int.toNat_natCast]
    by_cases hst : 0 ≤ q.run
    · rw [if_pos hst]
      refine ACalls.up ?_
      refine ACalls.intro (cs := []) (n := 16) Try.func77 rfl rfl rfl (by kernel_rfl) rfl ?_
      generalize hpost : (fun (o : Out) (H : Heap) => o = Out.ret (.tuple []) ∧ _) = post
      simp only [go_sem, Nat.reduceAdd, Nat.reduceSub, Nat.reduceMul, Nat.reduceEqDiff, Nat.reduceLeDiff, Nat.reduceLT, ↓reduceIte, Int.reduceToNat, reduceCtorEq, S.heap]
      refine rK_use (enters_of Try.func47 rfl (by decide)) (wuse (R := [.rows 1 [[iv i]]]) (cpu_ok s i q hq) (by simp [ltL, AV.lt]) rfl) ?_
      simp only [go_sem, Nat.reduceAdd, Nat.reduceSub, Nat.reduceMul, Nat.reduceEqDiff, Nat.reduceLeDiff, Nat.reduceLT, ↓reduceIte, Int.reduceToNat, reduceCtorEq, S.heap, List.length_map, List.getElem?_map, hq, hlt, Q.row, ge_iff_le, hst]
      refine rK_use (enters_of Try.func54 rfl (by decide)) (ACalls.pure_use (must_t _) rfl rfl) ?_
      simp only [go_sem, Nat.reduceAdd, Nat.reduceSub, Nat.reduceMul, Nat.reduceEqDiff, Nat.reduceLeDiff, Nat.reduceLT, ↓reduceIte, Int.reduceToNat, reduceCtorEq, S.heap, List.length_map, List.getElem?_map, hq, hlt, Q.row]
      subst hpost
      exact Up.drop (s := s.setQ i { q with left := 0 }) (R := [.rows 1 [[iv i]]]) rfl hR rfl (by simp) (by rw [S.setQ_heap]; rfl) ⟨rfl, rfl⟩
    · rw [if_neg hst]
      refine ACalls.up ?_
      refine ACalls.intro (cs := []) (n := 16) Try.func77 rfl rfl rfl (by kernel_rfl) rfl ?_
      generalize hpost : (fun (o : Out) (H : Heap) => o = Out.pan (refuse 52) ∧ _) = post
      simp only [go_sem, Nat.reduceAdd, Nat.reduceSub, Nat.reduceMul, Nat.reduceEqDiff, Nat.reduceLeDiff, Nat.reduceLT, ↓reduceIte, Int.reduceToNat, reduceCtorEq, S.heap]
      refine rK_use (enters_of Try.func47 rfl (by decide)) (wuse (R := [.rows 1 [[iv i]]]) (cpu_ok s i q hq) (by simp [ltL, AV.lt]) rfl) ?_
      simp only [go_sem, Nat.reduceAdd, Nat.reduceSub, Nat.reduceMul, Nat.reduceEqDiff, Nat.reduceLeDiff, Nat.reduceLT, ↓reduceIte, Int.reduceToNat, reduceCtorEq, S.heap, List.length_map, List.getElem?_map, hq, hlt, Q.row, ge_iff_le, hst]
      refine rK_pans (enters_of Try.func54 rfl (by decide)) (ACalls.pure_pan (must_f _) rfl rfl) ?_
      simp only [go_sem, Nat.reduceAdd, Nat.reduceSub, Nat.reduceMul, Nat.reduceEqDiff, Nat.reduceLeDiff, Nat.reduceLT, ↓reduceIte, Int.reduceToNat, reduceCtorEq]
      subst hpost
      exact Up.dropp (R := [.rows 1 [[iv i]]]) (rest := []) rfl hR rfl ⟨rfl, rfl⟩
theorem S.Ok.due_h {s : S} (h : s.Ok) {c : Nat} {q : Q} (hq : s.cpus[c]? = some q) : (∀ x ∈ q.ready, 0 ≤ x ∧ x < s.thr.length) ∧ (q.run = -1 ∨ 0 ≤ q.run ∧ q.run < s.thr.length) :=
  ⟨fun x hx => S.is_lt ((h.rdy c q hq).1 x hx), (h.run c q hq).imp (fun h => h.1) fun h => S.is_lt h.1⟩
/-- A closure that only reads. -/
theorem Due_clo (s : S) (h : s.Ok) (n : Int) : Clo 50 s [.rows 1 [[iv n]], .rows 1 [[.bool false]]] [.ptr 3 0 0, .ptr 4 0 0] ((s.cp n).map fun _ => s) 52 [.rows 1 [[iv n]], .rows 1 [[.bool ((s.cp n).isSome && s.due n.toNat)]]] := by
  have hR : ∀ d, ∀ b ∈ [Blk.rows 1 [[iv n]], .rows 1 [[.bool d]]], b.lt 0 := by simp [Blk.lt, ltL, AV.lt]
  cases hqc : s.cp n with
  | none =>
    refine ACalls.up ?_
    refine ACalls.intro (cs := []) (n := 10) Try.func50 rfl rfl rfl (by kernel_rfl) rfl ?_
    generalize hpost : (fun (o : Out) (H : Heap) => o = Out.pan (refuse 52) ∧ _) = post
    simp only [go_sem, Nat.reduceAdd, Nat.reduceSub, Nat.reduceMul, Nat.reduceEqDiff, Nat.reduceLeDiff, Nat.reduceLT, ↓reduceIte, Int.reduceToNat, reduceCtorEq, S.heap]
    refine rK_pans (enters_of Try.func47 rfl (by decide)) (wpan (R := [.rows 1 [[iv n]], .rows 1 [[.bool false]]]) (cpu_no s n (S.cp_none hqc)) (by simp [ltL, AV.lt]) rfl) ?_
    simp only [go_sem, Nat.reduceAdd, Nat.reduceSub, Nat.reduceMul, Nat.reduceEqDiff, Nat.reduceLeDiff, Nat.reduceLT, ↓reduceIte, Int.reduceToNat, reduceCtorEq]
    subst hpost
    exact Up.dropp (R := [.rows 1 [[iv n]], .rows 1 [[.bool false]]]) (rest := []) rfl (hR _) rfl ⟨rfl, rfl⟩
  | some q =>
    obtain ⟨i, rfl, hq⟩ := S.cp_some hqc
    simp only [Int.toNat_natCast, Option.isSome_some, Bool.true_and, Option.map_some]
    have hd := h.due_h hq
    refine ACalls.up ?_
    refine ACalls.intro (cs := []) (n := 10) Try.func50 rfl rfl rfl (by kernel_rfl) rfl ?_
    generalize hpost : (fun (o : Out) (H : Heap) => o = Out.ret (.tuple []) ∧ _) = post
    simp only [go_sem, Nat.reduceAdd, Nat.reduceSub, Nat.reduceMul, Nat.reduceEqDiff, Nat.reduceLeDiff, Nat.reduceLT, ↓reduceIte, Int.reduceToNat, reduceCtorEq, S.heap]
    refine rK_use (enters_of Try.func47 rfl (by decide)) (wuse (R := [.rows 1 [[iv i]], .rows 1 [[.bool false]]]) (cpu_ok s i q hq) (by simp [ltL, AV.lt]) rfl) ?_
    simp only [go_sem, Nat.reduceAdd, Nat.reduceSub, Nat.reduceMul, Nat.reduceEqDiff, Nat.reduceLeDiff, Nat.reduceLT, ↓reduceIte, Int.reduceToNat, reduceCtorEq, S.heap]
    refine rK_use (enters_of Try.func48 rfl (by decide)) (wuse (R := [.rows 1 [[iv i]], .rows 1 [[.bool false]]]) (due_c s i q hq hd.1 hd.2) (by simp [ltL, AV.lt]) rfl) ?_
    simp only [go_sem, Nat.reduceAdd, Nat.reduceSub, Nat.reduceMul, Nat.reduceEqDiff, Nat.reduceLeDiff, Nat.reduceLT, ↓reduceIte, Int.reduceToNat, reduceCtorEq, S.heap]
    subst hpost
    exact Up.drop (s := s) (R := [.rows 1 [[iv i]], .rows 1 [[.bool (s.due i)]]]) rfl (hR _) rfl (by simp) rfl ⟨rfl, rfl⟩
def S.tick (s : S) (c : Nat) : S := match s.cpus[c]? with
  | some q => s.setQ c { q with left := if 0 > q.left - 1 then 0 else q.left - 1 }
  | none => s
theorem Tick_clo (s : S) (h : s.Ok) (n : Int) : Clo 52 s [.rows 1 [[iv n]], .rows 1 [[.bool false]]] [.ptr 3 0 0, .ptr 4 0 0] ((s.cp n).map fun _ => s.tick n.toNat) 52 [.rows 1 [[iv n]], .rows 1 [[.bool ((s.cp n).isSome && (s.tick n.toNat).due n.toNat)]]] := by
  have hR : ∀ d, ∀ b ∈ [Blk.rows 1 [[iv n]], .rows 1 [[.bool d]]], b.lt 0 := by simp [Blk.lt, ltL, AV.lt]
  cases hqc : s.cp n with
  | none =>
    refine ACalls.up ?_
    refine ACalls.intro (cs := []) (n := 20) Try.func52 rfl rfl rfl (by kernel_rfl) rfl ?_
    generalize hpost : (fun (o : Out) (H : Heap) => o = Out.pan (refuse 52) ∧ _) = post
    simp only [go_sem, Nat.reduceAdd, Nat.reduceSub, Nat.reduceMul, Nat.reduceEqDiff, Nat.reduceLeDiff, Nat.reduceLT, ↓reduceIte, Int.reduceToNat, reduceCtorEq, S.heap]
    refine rK_pans (enters_of Try.func47 rfl (by decide)) (wpan (R := [.rows 1 [[iv n]], .rows 1 [[.bool false]]]) (cpu_no s n (S.cp_none hqc)) (by simp [ltL, AV.lt]) rfl) ?_
    simp only [go_sem, Nat.reduceAdd, Nat.reduceSub, Nat.reduceMul, Nat.reduceEqDiff, Nat.reduceLeDiff, Nat.reduceLT, ↓reduceIte, Int.reduceToNat, reduceCtorEq]
    subst hpost
    exact Up.dropp (R := [.rows 1 [[iv n]], .rows 1 [[.bool false]]]) (rest := []) rfl (hR _) rfl ⟨rfl, rfl⟩
  | some q =>
    obtain ⟨i, rfl, hq⟩ := S.cp_some hqc
    have hlt : i < s.cpus.length := (List.getElem?_eq_some_iff.1 hq).1
    simp only [Int.toNat_natCast, Option.isSome_some, Bool.true_and, Option.map_some]
    have hd := h.due_h hq
    have hleft : 0 ≤ q.left ∧ q.left ≤ 20 := by
      have := h.q20
      rcases h.run i q hq with h | h <;> omega
    have e1 : iw .i64 (q.left - 1) = q.left - 1 := by rw [iw64] <;> omega
    have ht : s.tick i = s.setQ i { q with left := if 0 > q.left - 1 then 0 else q.left - 1 } := by simp only [S.tick, hq]
    have hq2 : (s.tick i).cpus[i]? = some { q with left := if 0 > q.left - 1 then 0 else q.left - 1 } := by rw [ht, S.setQ]; simp [hlt]
    have e3 : (s.tick i).thr = s.thr := by rw [ht, S.setQ]
    refine ACalls.up ?_
    refine ACalls.intro (cs := []) (n := 20) Try.func52 rfl rfl rfl (by kernel_rfl) rfl ?_
    generalize hpost : (fun (o : Out) (H : Heap) => o = Out.ret (.tuple []) ∧ _) = post
    simp only [go_sem, Nat.reduceAdd, Nat.reduceSub, Nat.reduceMul, Nat.reduceEqDiff, Nat.reduceLeDiff, Nat.reduceLT, ↓reduceIte, Int.reduceToNat, reduceCtorEq, S.heap]
    refine rK_use (enters_of Try.func47 rfl (by decide)) (wuse (R := [.rows 1 [[iv i]], .rows 1 [[.bool false]]]) (cpu_ok s i q hq) (by simp [ltL, AV.lt]) rfl) ?_
    simp only [go_sem, Nat.reduceAdd, Nat.reduceSub, Nat.reduceMul, Nat.reduceEqDiff, Nat.reduceLeDiff, Nat.reduceLT, ↓reduceIte, Int.reduceToNat, reduceCtorEq, S.heap, List.length_map, List.getElem?_map, hq, hlt, Q.row, e1]
    have hrow : (s.cpus.map Q.row).set i [iv q.run, iv (if 0 > q.left - 1 then 0 else q.left - 1), .view false 1 (q.ready.map r1)] = ((s.tick i).cpus).map Q.row := by rw [ht, S.setQ, List.map_set]; rfl
    have hheap : ∀ R, (s.tick i).heap R = .rows 3 [[.sl 1 0 s.cpus.length none, .sl 2 0 s.thr.length none, iv s.quantum]] :: .rows 3 ((s.tick i).cpus.map Q.row) :: .rows 3 (s.thr.map T.row) :: R := fun R => by
      rw [S.heap, e3, ht, S.setQ, List.length_set]
    rw [hrow]
    refine rK_use (enters_of Try.func48 rfl (by decide)) (H := _) (H' := (s.tick i).heap [.rows 1 [[iv i]], .rows 1 [[.bool false]]]) (by rw [← hheap]; exact wuse (due_c (s.tick i) i _ hq2 (by rw [e3]; exact hd.1) (by rw [e3]; exact hd.2)) (by simp [ltL, AV.lt]) rfl) ?_
    simp only [go_sem, Nat.reduceAdd, Nat.reduceSub, Nat.reduceMul, Nat.reduceEqDiff, Nat.reduceLeDiff, Nat.reduceLT, ↓reduceIte, Int.reduceToNat, reduceCtorEq, S.heap]
    subst hpost
    exact Up.drop (s := s.tick i) (R := [.rows 1 [[iv i]], .rows 1 [[.bool ((s.tick i).due i)]]]) rfl (hR _) rfl (by simp) rfl ⟨rfl, rfl⟩
end Go.Proofs.Ytljepmbikbdicaa

set_option maxRecDepth 100000
set_option linter.unusedVariables false
set_option linter.unusedSimpArgs false
namespace Go.Proofs.Ytljepmbikbdicaa
open Go.AM
theorem S.take_eq {s : S} {i : Nat} {t : T} {q : Q} (ht : s.thr[i]? = some t) (hq : s.cpus[t.cpu.toNat]? = some q) : s.take i = s.setQ t.cpu.toNat (q.out i) := by simp only [S.take, ht, hq, S.setQ]
theorem S.put_eq {s : S} {i : Nat} {front : Bool} {t : T} {q : Q} (ht : s.thr[i]? = some t) (hq : s.cpus[t.cpu.toNat]? = some q) :
    s.put i front = { s with thr := s.thr.set i { t with st := 1 }, cpus := s.cpus.set t.cpu.toNat { q with ready := ins q.ready (idxF (s.below t.pri front) q.ready 0) i } } := by simp only [S.put, ht, hq]
theorem mem_ins {l : List Int} {k x y : Int} (h : y ∈ ins l k x) : y ∈ l ∨ y = x := by
  unfold ins at h
  split at h
  · simpa using h
  · simp only [List.mem_append, List.mem_cons] at h
    rcases h with h | h | h
    · exact .inl (List.mem_of_mem_take h)
    · exact .inr h
    · exact .inl (List.mem_of_mem_drop h)
def S.eWake (s : S) (n : Int) : Option S := match s.th n with
  | some t => if t.st ∈ [3] then some (s.put n.toNat false) else none
  | none => none
def S.dWake (s : S) (n : Int) : Bool := match s.th n with
  | some t => if t.st ∈ [3] then (s.put n.toNat false).due t.cpu.toNat else false
  | none => false
theorem Wake_clo (s : S) (h : s.Ok) (n : Int) : Clo 60 s [.rows 1 [[iv n]], .rows 1 [[.bool false]]] [.ptr 3 0 0, .ptr 4 0 0] (s.eWake n) 51 [.rows 1 [[iv n]], .rows 1 [[.bool (s.dWake n)]]] := by
  unfold S.eWake S.dWake
  have hR : ∀ d, ∀ b ∈ [Blk.rows 1 [[iv n]], .rows 1 [[.bool d]]], b.lt 0 := by simp [Blk.lt, ltL, AV.lt]
  cases htc : s.th n with
  | none =>
    refine ACalls.up ?_
    refine ACalls.intro (cs := []) (n := 18) Try.func60 rfl rfl rfl (by kernel_rfl) rfl ?_
    generalize hpost : (fun (o : Out) (H : Heap) => o = Out.pan (refuse 51) ∧ _) = post
    simp only [go_sem, Nat.reduceAdd, Nat.reduceSub, Nat.reduceMul, Nat.reduceEqDiff, Nat.reduceLeDiff, Nat.reduceLT, ↓reduceIte, Int.reduceToNat, reduceCtorEq, S.heap]
    refine rK_pans (enters_of Try.func57 rfl (by decide)) (thread_n s n [3] _ (S.th_none htc) [.rows 1 [[iv n]], .rows 1 [[.bool false]]] (hR _) 5 1 rfl rfl) ?_
    simp only [go_sem, Nat.reduceAdd, Nat.reduceSub, Nat.reduceMul, Nat.reduceEqDiff, Nat.reduceLeDiff, Nat.reduceLT, ↓reduceIte, Int.reduceToNat, reduceCtorEq]
    subst hpost
    exact Up.dropp (R := [.rows 1 [[iv n]], .rows 1 [[.bool false]]]) rfl (hR _) rfl ⟨rfl, rfl⟩
  | some t =>
    obtain ⟨i, rfl, ht⟩ := S.th_some htc
    simp only [Int.toNat_natCast]
    by_cases hst : t.st ∈ [3]
    · rw [if_pos hst, if_pos hst]
      obtain ⟨q, hq, hq1, hq2, hq3⟩ := h.at ht
      have hlt : i < s.thr.length := (List.getElem?_eq_some_iff.1 ht).1
      have hlc : t.cpu.toNat < s.cpus.length := (List.getElem?_eq_some_iff.1 hq).1
      have hput := S.put_eq (front := false) ht hq
      have hthr : (s.put i false).thr = s.thr.set i { t with st := 1 } := by rw [hput]
      have ht2 : (s.put i false).thr[i]? = some { t with st := 1 } := by rw [hthr, List.getElem?_set_self hlt]
      have hq5 : (s.put i false).cpus[t.cpu.toNat]? = some { q with ready := ins q.ready (idxF (s.below t.pri false) q.ready 0) i } := by rw [hput]; simp [hlc]
      have hlt2 : i < (s.put i false).thr.length := by rw [hthr, List.length_set]; exact hlt
      have hd := h.due_h hq
      refine ACalls.up ?_
      refine ACalls.intro (cs := []) (n := 18) Try.func60 rfl rfl rfl (by kernel_rfl) rfl ?_
      generalize hpost : (fun (o : Out) (H : Heap) => o = Out.ret (.tuple []) ∧ _) = post
      simp only [go_sem, Nat.reduceAdd, Nat.reduceSub, Nat.reduceMul, Nat.reduceEqDiff, Nat.reduceLeDiff, Nat.reduceLT, ↓reduceIte, Int.reduceToNat, reduceCtorEq, S.heap]
      refine rK_use (enters_of Try.func57 rfl (by decide)) (thread_u s i t [3] _ ht [.rows 1 [[iv i]], .rows 1 [[.bool false]]] (hR _) 5 1 rfl rfl _ (by rw [if_pos hst])) ?_
      simp only [go_sem, Nat.reduceAdd, Nat.reduceSub, Nat.reduceMul, Nat.reduceEqDiff, Nat.reduceLeDiff, Nat.reduceLT, ↓reduceIte, Int.reduceToNat, reduceCtorEq, S.heap]
      refine rK_use (enters_of Try.func49 rfl (by decide)) (wuse (R := [.rows 1 [[iv i]], .rows 1 [[.bool false]], .dead]) (put_c s i false t q ht hq1 hq hq2 hq3) (by simp [ltL, AV.lt]) rfl) ?_
      simp only [go_sem, Nat.reduceAdd, Nat.reduceSub, Nat.reduceMul, Nat.reduceEqDiff, Nat.reduceLeDiff, Nat.reduceLT, ↓reduceIte, Int.reduceToNat, reduceCtorEq, S.heap, List.length_map, List.getElem?_map, ht2, hlt2, T.row]
      have hcc : t.cpu = ((t.cpu.toNat : Nat) : Int) := by omega
      have hdue := due_c (s.put i false) t.cpu.toNat _ hq5 (fun x hx => ?_) ?_
      · rw [← hcc] at hdue
        refine rK_use (enters_of Try.func48 rfl (by decide)) (wuse (R := [.rows 1 [[iv i]], .rows 1 [[.bool false]], .dead]) (hdue) (by simp [ltL, AV.lt]) rfl) ?_
        simp only [go_sem, Nat.reduceAdd, Nat.reduceSub, Nat.reduceMul, Nat.reduceEqDiff, Nat.reduceLeDiff, Nat.reduceLT, ↓reduceIte, Int.reduceToNat, reduceCtorEq, S.heap]
        subst hpost
        exact Up.drop (s := s.put i false) (R := [.rows 1 [[iv i]], .rows 1 [[.bool _]]]) rfl (hR _) rfl (by simp) rfl ⟨rfl, rfl⟩
      · rw [hthr, List.length_set]
        rcases mem_ins hx with hx | rfl
        · exact hq2 x hx
        · omega
      · rw [hthr, List.length_set]
        exact hd.2
    · rw [if_neg hst, if_neg hst]
      refine ACalls.up ?_
      refine ACalls.intro (cs := []) (n := 18) Try.func60 rfl rfl rfl (by kernel_rfl) rfl ?_
      generalize hpost : (fun (o : Out) (H : Heap) => o = Out.pan (refuse 51) ∧ _) = post
      simp only [go_sem, Nat.reduceAdd, Nat.reduceSub, Nat.reduceMul, Nat.reduceEqDiff, Nat.reduceLeDiff, Nat.reduceLT, ↓reduceIte, Int.reduceToNat, reduceCtorEq, S.heap]
      refine rK_pans (enters_of Try.func57 rfl (by decide)) (thread_u s i t [3] _ ht [.rows 1 [[iv i]], .rows 1 [[.bool false]]] (hR _) 5 1 rfl rfl _ (by rw [if_neg hst])) ?_
      simp only [go_sem, Nat.reduceAdd, Nat.reduceSub, Nat.reduceMul, Nat.reduceEqDiff, Nat.reduceLeDiff, Nat.reduceLT, ↓reduceIte, Int.reduceToNat, reduceCtorEq]
      subst hpost
      exact Up.dropp (R := [.rows 1 [[iv i]], .rows 1 [[.bool false]]]) rfl (hR _) rfl ⟨rfl, rfl⟩
def S.setPri (s : S) (i : Nat) (p : Int) : S := match s.thr[i]? with
  | none => s
  | some t => { s with thr := s.thr.set i { t with pri := p } }
theorem S.setPri_eq {s : S} {i : Nat} {t : T} (ht : s.thr[i]? = some t) (p : Int) : s.setPri i p = { s with thr := s.thr.set i { t with pri := p } } := by simp only [S.setPri, ht]
theorem S.setPri_heap {s : S} {i : Nat} {t : T} (ht : s.thr[i]? = some t) (p : Int) (R : Heap) : (s.setPri i p).heap R = [.rows 3 [[.sl 1 0 s.cpus.length none, .sl 2 0 s.thr.length none, iv s.quantum]], .rows 3 (s.cpus.map Q.row), .rows 3 ((s.thr.map T.row).set i [iv p, iv t.cpu, iv t.st])] ++ R := by
  rw [S.setPri_eq ht, S.heap, List.map_set, List.length_set]
  rfl
def S.eSetPri (s : S) (n p : Int) : Option S := match s.th n with
  | some t => if t.st ∈ [1, 2, 3] ∧ 0 ≤ p ∧ p ≤ 7 then some (if t.st = 1 then ((s.take n.toNat).setPri n.toNat p).put n.toNat false else s.setPri n.toNat p) else none
  | none => none
def S.rSetPri (s : S) (n : Int) : Int := match s.th n with
  | some t => if t.st ∈ [1, 2, 3] then 1 else 51
  | none => 51
theorem SetPri_clo (s : S) (h : s.Ok) (n p : Int) : Clo 61 s [.rows 1 [[iv n]], .rows 1 [[iv p]]] [.ptr 3 0 0, .ptr 4 0 0] (s.eSetPri n p) (s.rSetPri n) [.rows 1 [[iv n]], .rows 1 [[iv p]]] := by
  unfold S.eSetPri S.rSetPri
  have hR : ∀ b ∈ [Blk.rows 1 [[iv n]], .rows 1 [[iv p]]], b.lt 0 := by simp [Blk.lt, ltL, AV.lt]
  cases htc : s.th n with
  | none =>
    refine ACalls.up ?_
    refine ACalls.intro (cs := []) (n := 30) Try.func61 rfl rfl rfl (by kernel_rfl) rfl ?_
    generalize hpost : (fun (o : Out) (H : Heap) => o = Out.pan (refuse _) ∧ _) = post
    simp only [go_sem, Nat.reduceAdd, Nat.reduceSub, Nat.reduceMul, Nat.reduceEqDiff, Nat.reduceLeDiff, Nat.reduceLT, ↓reduceIte, Int.reduceToNat, reduceCtorEq, S.heap]
    refine rK_pans (enters_of Try.func57 rfl (by decide)) (thread_n s n [1, 2, 3] _ (S.th_none htc) [.rows 1 [[iv n]], .rows 1 [[iv p]]] hR 5 3 rfl rfl) ?_
    simp only [go_sem, Nat.reduceAdd, Nat.reduceSub, Nat.reduceMul, Nat.reduceEqDiff, Nat.reduceLeDiff, Nat.reduceLT, ↓reduceIte, Int.reduceToNat, reduceCtorEq]
    subst hpost
    exact Up.dropp (R := [.rows 1 [[iv n]], .rows 1 [[iv p]]]) rfl hR rfl ⟨rfl, rfl⟩
  | some t =>
    obtain ⟨i, rfl, ht⟩ := S.th_some htc
    simp only [Int.toNat_natCast]
    by_cases hst : t.st ∈ [1, 2, 3]
    · have hlt : i < s.thr.length := (List.getElem?_eq_some_iff.1 ht).1
      obtain ⟨q, hq, hq1, hq2, hq3⟩ := h.at ht
      by_cases hp : 0 ≤ p ∧ p ≤ 7
      · rw [if_pos ⟨hst, hp⟩]
        refine ACalls.up ?_
        refine ACalls.intro (cs := []) (n := 30) Try.func61 rfl rfl rfl (by kernel_rfl) rfl ?_
        generalize hpost : (fun (o : Out) (H : Heap) => o = Out.ret (.tuple []) ∧ _) = post
        simp only [go_sem, Nat.reduceAdd, Nat.reduceSub, Nat.reduceMul, Nat.reduceEqDiff, Nat.reduceLeDiff, Nat.reduceLT, ↓reduceIte, Int.reduceToNat, reduceCtorEq, S.heap]
        refine rK_use (enters_of Try.func57 rfl (by decide)) (thread_u s i t [1, 2, 3] _ ht [.rows 1 [[iv i]], .rows 1 [[iv p]]] hR 5 3 rfl rfl _ (by rw [if_pos hst])) ?_
        simp only [go_sem, Nat.reduceAdd, Nat.reduceSub, Nat.reduceMul, Nat.reduceEqDiff, Nat.reduceLeDiff, Nat.reduceLT, ↓reduceIte, Int.reduceToNat, reduceCtorEq, S.heap]
        refine rK_use (enters_of Try.func55 rfl (by decide)) (ACalls.pure_use (isPri_c p) rfl rfl) ?_
        simp only [go_sem, Nat.reduceAdd, Nat.reduceSub, Nat.reduceMul, Nat.reduceEqDiff, Nat.reduceLeDiff, Nat.reduceLT, ↓reduceIte, Int.reduceToNat, reduceCtorEq, hp]
        refine rK_use (enters_of Try.func54 rfl (by decide)) (ACalls.pure_use (must_t _) rfl rfl) ?_
        simp only [go_sem, Nat.reduceAdd, Nat.reduceSub, Nat.reduceMul, Nat.reduceEqDiff, Nat.reduceLeDiff, Nat.reduceLT, ↓reduceIte, Int.reduceToNat, reduceCtorEq, S.heap, List.length_map, List.getElem?_map, ht, hlt, T.row]
        refine condD_dec (fun h1 => ?_) (fun h1 => ?_)
        · rw [if_pos h1] at hpost
          simp only [go_sem, Nat.reduceAdd, Nat.reduceSub, Nat.reduceMul, Nat.reduceEqDiff, Nat.reduceLeDiff, Nat.reduceLT, ↓reduceIte, Int.reduceToNat, reduceCtorEq, h1]
          refine rK_use (enters_of Try.func58 rfl (by decide)) (wuse (R := [.rows 1 [[iv i]], .rows 1 [[iv p]], .dead]) (take_c s i t q ht hq1 hq hq3) (by simp [ltL, AV.lt]) rfl) ?_
          have ht2 : (s.take i).thr[i]? = some t := by rw [S.take_thr]; exact ht
          have hlt2 : i < (s.take i).thr.length := (List.getElem?_eq_some_iff.1 ht2).1
          have hset : ((s.take i).thr.map T.row).set i [iv p, iv t.cpu, iv t.st] = ((s.take i).setPri i p).thr.map T.row := by rw [S.setPri_eq ht2, List.map_set]; rfl
          have hlc : t.cpu.toNat < s.cpus.length := (List.getElem?_eq_some_iff.1 hq).1
          simp only [go_sem, Nat.reduceAdd, Nat.reduceSub, Nat.reduceMul, Nat.reduceEqDiff, Nat.reduceLeDiff, Nat.reduceLT, ↓reduceIte, Int.reduceToNat, reduceCtorEq, S.heap, List.length_map, List.getElem?_map, ht2, hlt2, T.row]
          rw [← h1, hset]
          have e1 : ((s.take i).setPri i p).thr[i]? = some { t with pri := p } := by rw [S.setPri_eq ht2]; simp [hlt2]
          have e2 : ((s.take i).setPri i p).cpus[t.cpu.toNat]? = some (q.out i) := by rw [S.setPri_eq ht2, S.take_eq ht hq]; simp [S.setQ, hlc]
          have e3 : ((s.take i).setPri i p).thr.length = s.thr.length := by rw [S.setPri_eq ht2, S.take_thr]; simp
          have hh : ∀ R, [Blk.rows 3 [[.sl 1 0 (s.take i).cpus.length none, .sl 2 0 (s.take i).thr.length none, iv (s.take i).quantum]], .rows 3 ((s.take i).cpus.map Q.row), .rows 3 (((s.take i).setPri i p).thr.map T.row)] ++ R = ((s.take i).setPri i p).heap R := fun R => by
            rw [S.setPri_eq ht2, S.heap]; simp
          refine rK_use (enters_of Try.func49 rfl (by decide)) (H' := (((s.take i).setPri i p).put i false).heap [.rows 1 [[iv i]], .rows 1 [[iv p]], .dead]) (by
            have := hh [.rows 1 [[iv i]], .rows 1 [[iv p]], .dead]
            simp only [List.cons_append, List.nil_append] at this
            rw [this]
            exact wuse (put_c _ i false _ (q.out i) e1 hq1 e2 (fun x hx => by rw [e3]; exact hq2 x (List.mem_of_mem_erase hx)) (Nat.le_trans (List.length_erase_le ..) hq3)) (by simp [ltL, AV.lt]) rfl) ?_
          simp only [go_sem, Nat.reduceAdd, Nat.reduceSub, Nat.reduceMul, Nat.reduceEqDiff, Nat.reduceLeDiff, Nat.reduceLT, ↓reduceIte, Int.reduceToNat, reduceCtorEq, S.heap]
          subst hpost
          exact Up.drop (s := ((s.take i).setPri i p).put i false) (R := [.rows 1 [[iv i]], .rows 1 [[iv p]]]) rfl hR rfl (by simp) rfl ⟨rfl, rfl⟩
        · rw [if_neg h1] at hpost
          simp only [go_sem, Nat.reduceAdd, Nat.reduceSub, Nat.reduceMul, Nat.reduceEqDiff, Nat.reduceLeDiff, Nat.reduceLT, ↓reduceIte, Int.reduceToNat, reduceCtorEq, h1, S.heap, List.length_map, List.getElem?_map, ht, hlt, T.row]
          subst hpost
          exact Up.drop (s := s.setPri i p) (R := [.rows 1 [[iv i]], .rows 1 [[iv p]]]) rfl hR rfl (by simp) (by rw [S.setPri_heap ht]; rfl) ⟨rfl, rfl⟩
      · rw [if_neg (fun h => hp h.2), if_pos hst]
        refine ACalls.up ?_
        refine ACalls.intro (cs := []) (n := 30) Try.func61 rfl rfl rfl (by kernel_rfl) rfl ?_
        generalize hpost : (fun (o : Out) (H : Heap) => o = Out.pan (refuse _) ∧ _) = post
        simp only [go_sem, Nat.reduceAdd, Nat.reduceSub, Nat.reduceMul, Nat.reduceEqDiff, Nat.reduceLeDiff, Nat.reduceLT, ↓reduceIte, Int.reduceToNat, reduceCtorEq, S.heap]
        refine rK_use (enters_of Try.func57 rfl (by decide)) (thread_u s i t [1, 2, 3] _ ht [.rows 1 [[iv i]], .rows 1 [[iv p]]] hR 5 3 rfl rfl _ (by rw [if_pos hst])) ?_
        simp only [go_sem, Nat.reduceAdd, Nat.reduceSub, Nat.reduceMul, Nat.reduceEqDiff, Nat.reduceLeDiff, Nat.reduceLT, ↓reduceIte, Int.reduceToNat, reduceCtorEq, S.heap]
        refine rK_use (enters_of Try.func55 rfl (by decide)) (ACalls.pure_use (isPri_c p) rfl rfl) ?_
        simp only [go_sem, Nat.reduceAdd, Nat.reduceSub, Nat.reduceMul, Nat.reduceEqDiff, Nat.reduceLeDiff, Nat.reduceLT, ↓reduceIte, Int.reduceToNat, reduceCtorEq, hp]
        refine rK_pans (enters_of Try.func54 rfl (by decide)) (ACalls.pure_pan (must_f _) rfl rfl) ?_
        simp only [go_sem, Nat.reduceAdd, Nat.reduceSub, Nat.reduceMul, Nat.reduceEqDiff, Nat.reduceLeDiff, Nat.reduceLT, ↓reduceIte, Int.reduceToNat, reduceCtorEq]
        subst hpost
        exact Up.dropp (R := [.rows 1 [[iv i]], .rows 1 [[iv p]]]) rfl hR rfl ⟨rfl, rfl⟩
    · rw [if_neg (fun h => hst h.1), if_neg hst]
      refine ACalls.up ?_
      refine ACalls.intro (cs := []) (n := 30) Try.func61 rfl rfl rfl (by kernel_rfl) rfl ?_
      generalize hpost : (fun (o : Out) (H : Heap) => o = Out.pan (refuse _) ∧ _) = post
      simp only [go_sem, Nat.reduceAdd, Nat.reduceSub, Nat.reduceMul, Nat.reduceEqDiff, Nat.reduceLeDiff, Nat.reduceLT, ↓reduceIte, Int.reduceToNat, reduceCtorEq, S.heap]
      refine rK_pans (enters_of Try.func57 rfl (by decide)) (thread_u s i t [1, 2, 3] _ ht [.rows 1 [[iv i]], .rows 1 [[iv p]]] hR 5 3 rfl rfl _ (by rw [if_neg hst])) ?_
      simp only [go_sem, Nat.reduceAdd, Nat.reduceSub, Nat.reduceMul, Nat.reduceEqDiff, Nat.reduceLeDiff, Nat.reduceLT, ↓reduceIte, Int.reduceToNat, reduceCtorEq]
      subst hpost
      exact Up.dropp (R := [.rows 1 [[iv i]], .rows 1 [[iv p]]]) rfl hR rfl ⟨rfl, rfl⟩
end Go.Proofs.Ytljepmbikbdicaa

set_option maxRecDepth 100000
set_option linter.unusedVariables false
set_option linter.unusedSimpArgs false
namespace Go.Proofs.Ytljepmbikbdicaa
open Go.AM
/-- The state in which the running thread has gone back into the queue. -/
def S.back (s : S) (q : Q) : S := if 0 ≤ q.run then s.put q.run.toNat (decide (0 < q.left)) else s
def S.fore (s : S) (c : Nat) : S := match s.cpus[c]? with
  | some q => match q.ready with
    | x :: l => (s.setQ c { run := x, left := s.quantum, ready := l }).setSt x.toNat 2
    | [] => s
  | none => s
def S.sw (s : S) (c : Nat) : S := match s.cpus[c]? with
  | some q => if s.due c = true then (s.back q).fore c else if 0 ≤ q.run ∧ q.left = 0 then s.setQ c { q with left := s.quantum } else s
  | none => s
def S.runOf (s : S) (c : Nat) : Int := match s.cpus[c]? with
  | some q => q.run
  | none => 0
theorem S.is_thr {s : S} {x c st : Int} (h : s.is x c st = true) : ∃ (i : Nat) (t : T), x = i ∧ s.thr[i]? = some t ∧ t.cpu = c ∧ t.st = st := by
  have h0 := S.is_lt h
  unfold S.is at h
  split at h
  · rename_i t ht
    simp at h
    exact ⟨x.toNat, t, by omega, ht, h.1.2, h.2⟩
  · cases h
theorem S.due_ready {s : S} {c : Nat} {q : Q} (hq : s.cpus[c]? = some q) (h : s.due c = true) : ∃ x l, q.ready = x :: l := by
  unfold S.due at h
  rw [hq] at h
  cases hr : q.ready with
  | nil => simp only [hr] at h; cases h
  | cons x l => exact ⟨x, l, rfl⟩
theorem ins_length (l : List Int) (k x : Int) (hk : k < l.length ∨ k ≤ l.length) : (ins l k x).length = l.length + 1 := by
  unfold ins
  split
  · simp
  · simp; omega
/-- What is known of the state in which the running thread has gone back. -/
theorem S.Ok.back {s : S} (h : s.Ok) {c : Nat} {q : Q} (hq : s.cpus[c]? = some q) (hd : s.due c = true) : ∃ q1 x l, (s.back q).cpus[c]? = some q1 ∧ q1.ready = x :: l ∧ (0 ≤ x ∧ x < s.thr.length) ∧ (s.back q).thr.length = s.thr.length ∧ (s.back q).cpus.length = s.cpus.length ∧ (s.back q).quantum = s.quantum ∧ (0 ≤ q.run → ∃ (i : Nat) (t : T), q.run = i ∧ s.thr[i]? = some t ∧ t.cpu = c) := by
  obtain ⟨x, l, hx⟩ := S.due_ready hq hd
  have hdh := h.due_h hq
  have hlc : c < s.cpus.length := (List.getElem?_eq_some_iff.1 hq).1
  unfold S.back
  by_cases h0 : 0 ≤ q.run
  · rw [if_pos h0]
    have hr := (h.run c q hq).resolve_left (by omega)
    obtain ⟨i, t, hi, ht, htc, _⟩ := S.is_thr hr.1
    have e : t.cpu.toNat = c := by omega
    have hq' : s.cpus[t.cpu.toNat]? = some q := by rw [e]; exact hq
    have e2 : q.run.toNat = i := by omega
    rw [e2, S.put_eq ht hq']
    have hne : ins q.ready (idxF (s.below t.pri (decide (0 < q.left))) q.ready 0) i ≠ [] := by
      unfold ins; split <;> simp
    obtain ⟨y, m, hy⟩ := List.exists_cons_of_ne_nil hne
    refine ⟨_, y, m, by simp [e, hlc]; rfl, hy, ?_, by simp, by simp, rfl, fun _ => ⟨i, t, hi, ht, htc⟩⟩
    have hm : y ∈ ins q.ready (idxF (s.below t.pri (decide (0 < q.left))) q.ready 0) i := by rw [hy]; simp
    have hil : i < s.thr.length := (List.getElem?_eq_some_iff.1 ht).1
    rcases mem_ins hm with hm | rfl
    · exact hdh.1 y hm
    · omega
  · rw [if_neg h0]
    exact ⟨q, x, l, hq, hx, hdh.1 x (by simp [hx]), rfl, rfl, rfl, fun h => absurd h h0⟩
theorem Switch_clo (s : S) (h : s.Ok) (n : Int) : Clo 46 s [.rows 1 [[iv n]], .rows 1 [[iv 0]]] [.ptr 3 0 0, .ptr 4 0 0] ((s.cp n).map fun _ => s.sw n.toNat) 52 [.rows 1 [[iv n]], .rows 1 [[iv (if (s.cp n).isSome then (s.sw n.toNat).runOf n.toNat else 0)]]] := by
  have hR : ∀ d, ∀ b ∈ [Blk.rows 1 [[iv n]], .rows 1 [[iv d]]], b.lt 0 := by simp [Blk.lt, ltL, AV.lt]
  cases hqc : s.cp n with
  | none =>
    refine ACalls.up ?_
    refine ACalls.intro (cs := []) (n := 88) Try.func46 rfl rfl rfl (by kernel_rfl) rfl ?_
    generalize hpost : (fun (o : Out) (H : Heap) => o = Out.pan (refuse 52) ∧ _) = post
    simp only [go_sem, Nat.reduceAdd, Nat.reduceSub, Nat.reduceMul, Nat.reduceEqDiff, Nat.reduceLeDiff, Nat.reduceLT, ↓reduceIte, Int.reduceToNat, reduceCtorEq, S.heap]
    refine rK_pans (enters_of Try.func47 rfl (by decide)) (wpan (R := [.rows 1 [[iv n]], .rows 1 [[iv 0]]]) (cpu_no s n (S.cp_none hqc)) (by simp [ltL, AV.lt]) rfl) ?_
    simp only [go_sem, Nat.reduceAdd, Nat.reduceSub, Nat.reduceMul, Nat.reduceEqDiff, Nat.reduceLeDiff, Nat.reduceLT, ↓reduceIte, Int.reduceToNat, reduceCtorEq]
    subst hpost
    exact Up.dropp (R := [.rows 1 [[iv n]], .rows 1 [[iv 0]]]) (rest := []) rfl (hR _) rfl ⟨rfl, rfl⟩
  | some q =>
    obtain ⟨i, rfl, hq⟩ := S.cp_some hqc
    have hlt : i < s.cpus.length := (List.getElem?_eq_some_iff.1 hq).1
    simp only [Int.toNat_natCast, Option.isSome_some, if_true, Option.map_some]
    have hd := h.due_h hq
    refine ACalls.up ?_
    refine ACalls.intro (cs := [5, 10]) (n := 88) Try.func46 rfl rfl rfl (by kernel_rfl) rfl ?_
    generalize hpost : (fun (o : Out) (H : Heap) => o = Out.ret (.tuple []) ∧ _) = post
    simp only [go_sem, Nat.reduceAdd, Nat.reduceSub, Nat.reduceMul, Nat.reduceEqDiff, Nat.reduceLeDiff, Nat.reduceLT, ↓reduceIte, Int.reduceToNat, reduceCtorEq, S.heap]
    refine rK_use (enters_of Try.func47 rfl (by decide)) (wuse (R := [.rows 1 [[iv i]], .rows 1 [[iv 0]]]) (cpu_ok s i q hq) (by simp [ltL, AV.lt]) rfl) ?_
    simp only [go_sem, Nat.reduceAdd, Nat.reduceSub, Nat.reduceMul, Nat.reduceEqDiff, Nat.reduceLeDiff, Nat.reduceLT, ↓reduceIte, Int.reduceToNat, reduceCtorEq, S.heap]
    have hsw : s.sw i = if s.due i = true then (s.back q).fore i else if 0 ≤ q.run ∧ q.left = 0 then s.setQ i { q with left := s.quantum } else s := by simp only [S.sw, hq]
    refine seq_cut (fun _ : Unit => (((Ch.nil.put 0 (.ptr 0 0 0)).put 1 (.ptr 3 0 0)).put 2 (.ptr 4 0 0)).put 4 (.ptr 1 i 0)) (fun _ => (s.sw i).heap [.rows 1 [[iv i]], .rows 1 [[iv 0]]]) (fun _ => True) (by kernel_rfl) (fun K1 hK1 => ?_) (fun _ _ => ?_)
    · simp only [go_sem, Nat.reduceAdd, Nat.reduceSub, Nat.reduceMul, Nat.reduceEqDiff, Nat.reduceLeDiff, Nat.reduceLT, ↓reduceIte, Int.reduceToNat, reduceCtorEq]
      refine rK_use (enters_of Try.func48 rfl (by decide)) (wuse (R := [.rows 1 [[iv i]], .rows 1 [[iv 0]]]) (due_c s i q hq hd.1 hd.2) (by simp [ltL, AV.lt]) rfl) ?_
      simp only [go_sem, Nat.reduceAdd, Nat.reduceSub, Nat.reduceMul, Nat.reduceEqDiff, Nat.reduceLeDiff, Nat.reduceLT, ↓reduceIte, Int.reduceToNat, reduceCtorEq, S.heap]
      refine condD_split (fun hdue => ?_) (fun hdue => ?_)
      · rw [if_pos hdue] at hsw
        simp only [go_sem, Nat.reduceAdd, Nat.reduceSub, Nat.reduceMul, Nat.reduceEqDiff, Nat.reduceLeDiff, Nat.reduceLT, ↓reduceIte, Int.reduceToNat, reduceCtorEq]
        refine draw [.qu 0 0, .qu 0 0, .qu 0 0, .qu 0 0, .qu 0 0, .qu 0 0, .qu 0 0, .qu 0 0, .qu 0 0, .qu 0 0, .qu 0 0] (by kernel_rfl) (by kernel_rfl) ?_
        simp only [go_sem, Nat.reduceAdd, Nat.reduceSub, Nat.reduceMul, Nat.reduceEqDiff, Nat.reduceLeDiff, Nat.reduceLT, ↓reduceIte, Int.reduceToNat, reduceCtorEq, S.heap, List.length_map, List.getElem?_map, hq, hlt, Q.row]
        obtain ⟨q1, x, l, hq1, hx, hx0, htl, hcl, hqu, hrun⟩ := h.back hq hdue
        refine seq_cut (fun _ : Unit => (((Ch.nil.put 0 (.ptr 0 0 0)).put 1 (.ptr 3 0 0)).put 2 (.ptr 4 0 0)).put 4 (.ptr 1 i 0)) (fun _ => (s.back q).heap [.rows 1 [[iv i]], .rows 1 [[iv 0]]]) (fun _ => True) (by kernel_rfl) (fun K2 hK2 => ?_) (fun _ _ => ?_)
        · simp only [go_sem, Nat.reduceAdd, Nat.reduceSub, Nat.reduceMul, Nat.reduceEqDiff, Nat.reduceLeDiff, Nat.reduceLT, ↓reduceIte, Int.reduceToNat, reduceCtorEq]
          refine condD_dec (fun hr => ?_) (fun hr => ?_)
          · obtain ⟨j, t, hj, ht, htc⟩ := hrun hr
            have e : t.cpu.toNat = i := by omega
            have hbk : s.back q = s.put j (decide (0 < q.left)) := by
              rw [S.back, if_pos hr]; congr 1; omega
            simp only [go_sem, Nat.reduceAdd, Nat.reduceSub, Nat.reduceMul, Nat.reduceEqDiff, Nat.reduceLeDiff, Nat.reduceLT, ↓reduceIte, Int.reduceToNat, reduceCtorEq, hj]
            refine rK_use (enters_of Try.func49 rfl (by decide)) (wuse (R := [.rows 1 [[iv i]], .rows 1 [[iv 0]]]) (put_c s j (decide (0 < q.left)) t q ht (by omega) (by rw [e]; exact hq) hd.1 (h.fit.r q (List.mem_of_getElem? hq))) (by simp [ltL, AV.lt]) rfl) ?_
            simp only [go_sem, Nat.reduceAdd, Nat.reduceSub, Nat.reduceMul, Nat.reduceEqDiff, Nat.reduceLeDiff, Nat.reduceLT, ↓reduceIte, Int.reduceToNat, reduceCtorEq]
            exact hK2 () _ _ trivial (Wk.slots' (by rw [hbk]) (by simp [wkS, Ch.get]))
          · have hbk : s.back q = s := by rw [S.back, if_neg hr]
            simp only [go_sem, Nat.reduceAdd, Nat.reduceSub, Nat.reduceMul, Nat.reduceEqDiff, Nat.reduceLeDiff, Nat.reduceLT, ↓reduceIte, Int.reduceToNat, reduceCtorEq]
            exact hK2 () _ _ trivial (Wk.slots' (by rw [hbk]; rfl) (by simp [wkS, Ch.get]))
        · obtain ⟨r1', l1, rd1⟩ := q1
          simp only at hx
          subst hx
          have hlt1 : i < (s.back q).cpus.length := by omega
          obtain ⟨tx, htx⟩ : ∃ t, (s.back q).thr[x.toNat]? = some t := at_lt (by omega)
          have hxl : x.toNat < (s.back q).thr.length := by omega
          have hx1 : x < (s.back q).thr.length := by omega
          have hx2 : 0 ≤ x := hx0.1
          simp only [go_sem, Nat.reduceAdd, Nat.reduceSub, Nat.reduceMul, Nat.reduceEqDiff, Nat.reduceLeDiff, Nat.reduceLT, ↓reduceIte, Int.reduceToNat, reduceCtorEq]
          refine draw [.qu 0 0, .qu 0 1, .qu 0 0, .qu 0 0, .qu 0 0, .qu 0 0, .qu 0 0, .qu 0 0, .qu 0 0, .qu 0 0, .qu 0 0, .qu 0 0, .rd 0 1, .qu 0 0, .qu 0 0, .mn 0, .qu 1 1, .qu 1 1, .mn 1] (by kernel_rfl) (by kernel_rfl) ?_
          simp only [go_sem, Nat.reduceAdd, Nat.reduceSub, Nat.reduceMul, Nat.reduceEqDiff, Nat.reduceLeDiff, Nat.reduceLT, ↓reduceIte, Int.reduceToNat, reduceCtorEq, S.heap, List.length_map, List.getElem?_map, hq1, hlt1, Q.row, List.length_set]
          refine ⟨⟨Int.le_refl _, by omega⟩, ⟨by decide, by omega⟩, ⟨by decide, by omega⟩, ?_⟩
          refine draw [.qu 0 0, .qu 0 0, .qu 0 0, .qu 0 0, .qu 0 0, .qu 0 0, .qu 0 0, .qu 0 0, .qu 0 0, .qu 0 0, .qu 0 0, .mn 0] (by kernel_rfl) (by kernel_rfl) ?_
          simp only [go_sem, Nat.reduceAdd, Nat.reduceSub, Nat.reduceMul, Nat.reduceEqDiff, Nat.reduceLeDiff, Nat.reduceLT, ↓reduceIte, Int.reduceToNat, reduceCtorEq, S.heap, List.length_map, List.getElem?_map, List.getElem?_set_self, hq1, hlt1, Q.row, T.row, List.length_set, htx, hxl, hx1, hx2, List.set_set]
          have hfore : (s.back q).fore i = ((s.back q).setQ i { run := x, left := s.quantum, ready := l }).setSt x.toNat 2 := by
            simp only [S.fore, hq1, hqu]
          have htx2 : ((s.back q).setQ i { run := x, left := s.quantum, ready := l }).thr[x.toNat]? = some tx := htx
          refine hK1 () _ _ trivial (Wk.slots' ?_ (by simp [wkS, Ch.get]))
          rw [hsw, hfore, S.setSt_heap htx2]
          simp [S.setQ, hqu, List.map_set, Q.row]
      · rw [if_neg (by simp [hdue])] at hsw
        simp only [go_sem, Nat.reduceAdd, Nat.reduceSub, Nat.reduceMul, Nat.reduceEqDiff, Nat.reduceLeDiff, Nat.reduceLT, ↓reduceIte, Int.reduceToNat, reduceCtorEq, S.heap, List.length_map, List.getElem?_map, hq, hlt, Q.row, ge_iff_le]
        refine gD_dec (fun hr => ?_) (fun hr => ?_) <;> simp only [go_sem, Nat.reduceAdd, Nat.reduceSub, Nat.reduceMul, Nat.reduceEqDiff, Nat.reduceLeDiff, Nat.reduceLT, ↓reduceIte, Int.reduceToNat, reduceCtorEq, hr, S.heap, List.length_map, List.getElem?_map, hq, hlt, Q.row, ge_iff_le]
        · refine condD_dec (fun hl => ?_) (fun hl => ?_)
          · rw [if_pos ⟨hr, hl⟩] at hsw
            simp only [go_sem, Nat.reduceAdd, Nat.reduceSub, Nat.reduceMul, Nat.reduceEqDiff, Nat.reduceLeDiff, Nat.reduceLT, ↓reduceIte, Int.reduceToNat, reduceCtorEq, S.heap, List.length_map, List.getElem?_map, hq, hlt, Q.row, ge_iff_le]
            refine hK1 () _ _ trivial (Wk.slots' ?_ (by simp [wkS, Ch.get]))
            rw [hsw, S.setQ_heap]; rfl
          · rw [if_neg (fun h => hl h.2)] at hsw
            simp only [go_sem, Nat.reduceAdd, Nat.reduceSub, Nat.reduceMul, Nat.reduceEqDiff, Nat.reduceLeDiff, Nat.reduceLT, ↓reduceIte, Int.reduceToNat, reduceCtorEq]
            exact hK1 () _ _ trivial (Wk.slots' (by rw [hsw]; rfl) (by simp [wkS, Ch.get]))
        · rw [if_neg (fun h => hr h.1)] at hsw
          exact hK1 () _ _ trivial (Wk.slots' (by rw [hsw]; rfl) (by simp [wkS, Ch.get]))
    · obtain ⟨q', hq'⟩ : ∃ q', (s.sw i).cpus[i]? = some q' := by
        rw [hsw]
        split
        · rename_i hdue
          obtain ⟨q1, x, l, hq1, hx, hx0, htl, hcl, hqu, hrun⟩ := h.back hq hdue
          obtain ⟨tx, htx⟩ : ∃ t, (s.back q).thr[x.toNat]? = some t := at_lt (by omega)
          have hfore : (s.back q).fore i = ((s.back q).setQ i { run := x, left := (s.back q).quantum, ready := l }).setSt x.toNat 2 := by
            simp only [S.fore, hq1, hx]
          have htx2 : ((s.back q).setQ i { run := x, left := (s.back q).quantum, ready := l }).thr[x.toNat]? = some tx := htx
          rw [hfore, S.setSt_eq htx2, S.setQ]
          exact at_lt (by simp; omega)
        · split
          · exact at_lt (by simp [S.setQ]; omega)
          · exact at_lt hlt
      have hlt' : i < (s.sw i).cpus.length := (List.getElem?_eq_some_iff.1 hq').1
      have hro : (s.sw i).runOf i = q'.run := by simp only [S.runOf, hq']
      simp only [go_sem, Nat.reduceAdd, Nat.reduceSub, Nat.reduceMul, Nat.reduceEqDiff, Nat.reduceLeDiff, Nat.reduceLT, ↓reduceIte, Int.reduceToNat, reduceCtorEq, S.heap, List.length_map, List.getElem?_map, hq', hlt', Q.row]
      subst hpost
      exact Up.drop (s := s.sw i) (R := [.rows 1 [[iv i]], .rows 1 [[iv ((s.sw i).runOf i)]]]) rfl (hR _) rfl (by simp) (by rw [hro]; rfl) ⟨rfl, rfl⟩
end Go.Proofs.Ytljepmbikbdicaa

set_option maxRecDepth 100000
set_option linter.unusedVariables false
set_option linter.unusedSimpArgs false
namespace Go.Proofs.Ytljepmbikbdicaa
open Go.AM
def fullF : List Q → Nat → Nat → Int → Nat
  | [], _, b, _ => b
  | q :: l, i, b, bl => if q.load > bl then fullF l (i + 1) i q.load else fullF l (i + 1) b bl
def S.loadOf (s : S) (c : Nat) : Int := match s.cpus[c]? with
  | some q => q.load
  | none => 0
def S.full (s : S) : Nat := fullF s.cpus 0 0 (s.loadOf 0)
def S.setCpu (s : S) (i : Nat) (c : Int) : S := match s.thr[i]? with
  | none => s
  | some t => { s with thr := s.thr.set i { t with cpu := c } }
theorem S.setCpu_eq {s : S} {i : Nat} {t : T} (ht : s.thr[i]? = some t) (p : Int) : s.setCpu i p = { s with thr := s.thr.set i { t with cpu := p } } := by simp only [S.setCpu, ht]
def S.frontOf (s : S) (c : Nat) : Int := match s.cpus[c]? with
  | some q => match q.ready with
    | x :: _ => x
    | [] => -1
  | none => -1
def S.nSteal (s : S) (c : Nat) : Int := if s.loadOf c > 0 ∨ s.loadOf s.full < 2 then -1 else s.frontOf s.full
def S.steal (s : S) (c : Nat) : S := if s.loadOf c > 0 ∨ s.loadOf s.full < 2 then s else
  ((s.take (s.frontOf s.full).toNat).setCpu (s.frontOf s.full).toNat c).put (s.frontOf s.full).toNat false
theorem fullF_lt : ∀ (l : List Q) (i b : Nat) (bl : Int) (n : Nat), b < n → i + l.length ≤ n → fullF l i b bl < n
  | [], i, b, bl, n, hb, _ => hb
  | q :: l, i, b, bl, n, hb, hl => by
    simp only [fullF, List.length_cons] at hl ⊢
    split
    · exact fullF_lt l (i + 1) i _ n (by omega) (by omega)
    · exact fullF_lt l (i + 1) b _ n hb (by omega)
theorem Steal_clo (s : S) (h : s.Ok) (n : Int) : Clo 78 s [.rows 1 [[iv n]], .rows 1 [[iv 0]]] [.ptr 3 0 0, .ptr 4 0 0] ((s.cp n).map fun _ => s.steal n.toNat) 52 [.rows 1 [[iv n]], .rows 1 [[iv (if (s.cp n).isSome then s.nSteal n.toNat else 0)]]] := by
  have hR : ∀ d, ∀ b ∈ [Blk.rows 1 [[iv n]], .rows 1 [[iv d]]], b.lt 0 := by simp [Blk.lt, ltL, AV.lt]
  cases hqc : s.cp n with
  | none =>
    refine ACalls.up ?_
    refine ACalls.intro (cs := []) (n := 79) Try.func78 rfl rfl rfl (by kernel_rfl) rfl ?_
    generalize hpost : (fun (o : Out) (H : Heap) => o = Out.pan (refuse 52) ∧ _) = post
    simp only [go_sem, Nat.reduceAdd, Nat.reduceSub, Nat.reduceMul, Nat.reduceEqDiff, Nat.reduceLeDiff, Nat.reduceLT, ↓reduceIte, Int.reduceToNat, reduceCtorEq, S.heap]
    refine rK_pans (enters_of Try.func47 rfl (by decide)) (wpan (R := [.rows 1 [[iv n]], .rows 1 [[iv 0]]]) (cpu_no s n (S.cp_none hqc)) (by simp [ltL, AV.lt]) rfl) ?_
    simp only [go_sem, Nat.reduceAdd, Nat.reduceSub, Nat.reduceMul, Nat.reduceEqDiff, Nat.reduceLeDiff, Nat.reduceLT, ↓reduceIte, Int.reduceToNat, reduceCtorEq]
    subst hpost
    exact Up.dropp (R := [.rows 1 [[iv n]], .rows 1 [[iv 0]]]) (rest := []) rfl (hR _) rfl ⟨rfl, rfl⟩
  | some q =>
    obtain ⟨i, rfl, hq⟩ := S.cp_some hqc
    have hlt : i < s.cpus.length := (List.getElem?_eq_some_iff.1 hq).1
    simp only [Int.toNat_natCast, Option.isSome_some, if_true, Option.map_some]
    have hc4 := h.c4
    have hc1 := h.c1
    obtain ⟨q0, hq0⟩ : ∃ q, s.cpus[0]? = some q := at_lt (by omega)
    refine ACalls.up ?_
    refine ACalls.intro (cs := [8]) (n := 79) Try.func78 rfl rfl rfl (by kernel_rfl) rfl ?_
    generalize hpost : (fun (o : Out) (H : Heap) => o = Out.ret (.tuple []) ∧ _) = post
    simp only [go_sem, Nat.reduceAdd, Nat.reduceSub, Nat.reduceMul, Nat.reduceEqDiff, Nat.reduceLeDiff, Nat.reduceLT, ↓reduceIte, Int.reduceToNat, reduceCtorEq, S.heap]
    refine rK_use (enters_of Try.func47 rfl (by decide)) (wuse (R := [.rows 1 [[iv i]], .rows 1 [[iv 0]]]) (cpu_ok s i q hq) (by simp [ltL, AV.lt]) rfl) ?_
    simp only [go_sem, Nat.reduceAdd, Nat.reduceSub, Nat.reduceMul, Nat.reduceEqDiff, Nat.reduceLeDiff, Nat.reduceLT, ↓reduceIte, Int.reduceToNat, reduceCtorEq, S.heap]
    refine loop_fam (fun x : Nat × Nat => (((((((Ch.nil.put 0 (.ptr 0 0 0)).put 1 (.ptr 3 0 0)).put 2 (.ptr 4 0 0)).put 4 (.ptr 1 i 0)).put 15 (.sl 1 0 s.cpus.length none)).put 16 (iv s.cpus.length)).put 17 (iv x.1)).put 5 (iv x.2)) (fun _ => s.heap [.rows 1 [[iv i]], .rows 1 [[iv (-1)]]]) (fun x => s.cpus.length - x.1)
      (fun x => x.1 ≤ s.cpus.length ∧ x.2 < s.cpus.length ∧ s.full = fullF (s.cpus.drop x.1) x.1 x.2 (s.loadOf x.2)) (0, 0) (by kernel_rfl) ⟨Nat.zero_le _, by dsimp only; omega, by simp [S.full]⟩ (Wk.slots' rfl (by simp [wkS, Ch.get])) ?_
    rintro ⟨k, b⟩ ⟨hk, hb, hf⟩ K hK
    simp only at hk hb hf
    obtain ⟨qb, hqb⟩ : ∃ q, s.cpus[b]? = some q := at_lt hb
    have hlb : s.loadOf b = qb.load := by simp only [S.loadOf, hqb]
    simp only [go_sem, Nat.reduceAdd, Nat.reduceSub, Nat.reduceMul, Nat.reduceEqDiff, Nat.reduceLeDiff, Nat.reduceLT, ↓reduceIte, Int.reduceToNat, reduceCtorEq]
    refine condD_dec (fun hc => ?_) (fun hc => ?_)
    · have hk' : k < s.cpus.length := by omega
      obtain ⟨qk, hqk⟩ := at_lt hk'
      have hlk : s.loadOf k = qk.load := by simp only [S.loadOf, hqk]
      have e1 : iw .i64 ((k : Int) + 1) = ((k + 1 : Nat) : Int) := by rw [iw64] <;> omega
      rw [drop_at hqk, fullF, hlb] at hf
      simp only [go_sem, Nat.reduceAdd, Nat.reduceSub, Nat.reduceMul, Nat.reduceEqDiff, Nat.reduceLeDiff, Nat.reduceLT, ↓reduceIte, Int.reduceToNat, reduceCtorEq, S.heap, List.length_map, List.getElem?_map, hqk, hk', hc, Q.row, Int.natCast_nonneg]
      refine seq_cut (fun b' : Nat => (((((((Ch.nil.put 0 (.ptr 0 0 0)).put 1 (.ptr 3 0 0)).put 2 (.ptr 4 0 0)).put 4 (.ptr 1 i 0)).put 15 (.sl 1 0 s.cpus.length none)).put 16 (iv s.cpus.length)).put 17 (iv k)).put 5 (iv b')) (fun _ => s.heap [.rows 1 [[iv i]], .rows 1 [[iv (-1)]]])
        (fun b' => b' < s.cpus.length ∧ s.full = fullF (s.cpus.drop (k + 1)) (k + 1) b' (s.loadOf b')) (by kernel_rfl) (fun K2 hK2 => ?_) (fun b' hb' => ?_)
      · simp only [go_sem, Nat.reduceAdd, Nat.reduceSub, Nat.reduceMul, Nat.reduceEqDiff, Nat.reduceLeDiff, Nat.reduceLT, ↓reduceIte, Int.reduceToNat, reduceCtorEq, S.heap, List.length_map, List.getElem?_map, hqk, hk', hc, Q.row, Int.natCast_nonneg]
        refine draw [.qu 0 0, .mn 0, .qu 0 1, .qu 0 1, .qu 0 1, .qu 0 1, .rd 0 1, .qu 0 1, .rd 0 1, .rd 0 1, .mn 1, .qu 2 2] (by kernel_rfl) (by kernel_rfl) ?_
        simp only [go_sem, Nat.reduceAdd, Nat.reduceSub, Nat.reduceMul, Nat.reduceEqDiff, Nat.reduceLeDiff, Nat.reduceLT, ↓reduceIte, Int.reduceToNat, reduceCtorEq, S.heap, List.length_map, List.getElem?_map, hqk, hk', hc, Q.row, Int.natCast_nonneg]
        refine dM_call (enters_of Try.func79 rfl (by decide)) (ACalls.pure_use (load_c qk (h.fit.r qk (List.mem_of_getElem? hqk))) rfl rfl) ?_
        simp only [go_sem, Nat.reduceAdd, Nat.reduceSub, Nat.reduceMul, Nat.reduceEqDiff, Nat.reduceLeDiff, Nat.reduceLT, ↓reduceIte, Int.reduceToNat, reduceCtorEq, S.heap, List.length_map, List.getElem?_map, hqb, hb, Q.row, Int.natCast_nonneg]
        have hb2 : (b : Int) < s.cpus.length := by omega
        simp only [go_sem, Nat.reduceAdd, Nat.reduceSub, Nat.reduceMul, Nat.reduceEqDiff, Nat.reduceLeDiff, Nat.reduceLT, ↓reduceIte, Int.reduceToNat, reduceCtorEq, hb2]
        refine dM_call (enters_of Try.func79 rfl (by decide)) (ACalls.pure_use (load_c qb (h.fit.r qb (List.mem_of_getElem? hqb))) rfl rfl) ?_
        simp only [go_sem, Nat.reduceAdd, Nat.reduceSub, Nat.reduceMul, Nat.reduceEqDiff, Nat.reduceLeDiff, Nat.reduceLT, ↓reduceIte, Int.reduceToNat, reduceCtorEq]
        refine condD_dec (fun hg => ?_) (fun hg => ?_)
        · rw [if_pos hg] at hf
          simp only [go_sem, Nat.reduceAdd, Nat.reduceSub, Nat.reduceMul, Nat.reduceEqDiff, Nat.reduceLeDiff, Nat.reduceLT, ↓reduceIte, Int.reduceToNat, reduceCtorEq]
          exact hK2 k _ _ ⟨hk', by rw [hlk]; exact hf⟩ (Wk.drop (m := 5) (by simp [wkS, Ch.get]) (by decide) (by simp) (by simp [chLt, AV.lt]) rfl (fun d hd => by
            rcases List.mem_append.1 (show d ∈ s.heap [] ++ [Blk.rows 1 [[iv i]], .rows 1 [[iv (-1)]]] from hd) with h | h
            · exact blt_le (by decide) (s.heap_lt d h)
            · exact blt_le (Nat.zero_le _) (hR _ d h)))
        · rw [if_neg hg] at hf
          simp only [go_sem, Nat.reduceAdd, Nat.reduceSub, Nat.reduceMul, Nat.reduceEqDiff, Nat.reduceLeDiff, Nat.reduceLT, ↓reduceIte, Int.reduceToNat, reduceCtorEq]
          exact hK2 b _ _ ⟨hb, by rw [hlb]; exact hf⟩ (Wk.drop (m := 5) (by simp [wkS, Ch.get]) (by decide) (by simp) (by simp [chLt, AV.lt]) rfl (fun d hd => by
            rcases List.mem_append.1 (show d ∈ s.heap [] ++ [Blk.rows 1 [[iv i]], .rows 1 [[iv (-1)]]] from hd) with h | h
            · exact blt_le (by decide) (s.heap_lt d h)
            · exact blt_le (Nat.zero_le _) (hR _ d h)))
      · simp only [go_sem, Nat.reduceAdd, Nat.reduceSub, Nat.reduceMul, Nat.reduceEqDiff, Nat.reduceLeDiff, Nat.reduceLT, ↓reduceIte, Int.reduceToNat, reduceCtorEq, e1]
        exact hK (k + 1, b') _ _ ⟨hk', hb'.1, hb'.2⟩ (by dsimp only; omega) (Wk.slots' rfl (by simp [wkS, Ch.get]))
    · have hfb : s.full = b := by
        have : s.cpus.drop k = [] := by simp; omega
        rw [hf, this, fullF]
      have hli : s.loadOf i = q.load := by simp only [S.loadOf, hq]
      have hb2 : (b : Int) < s.cpus.length := by omega
      simp only [go_sem, Nat.reduceAdd, Nat.reduceSub, Nat.reduceMul, Nat.reduceEqDiff, Nat.reduceLeDiff, Nat.reduceLT, ↓reduceIte, Int.reduceToNat, reduceCtorEq, S.heap, List.length_map, List.getElem?_map, hq, hlt, Q.row]
      refine rK_use (enters_of Try.func79 rfl (by decide)) (ACalls.pure_use (load_c q (h.fit.r q (List.mem_of_getElem? hq))) rfl rfl) ?_
      simp only [go_sem, Nat.reduceAdd, Nat.reduceSub, Nat.reduceMul, Nat.reduceEqDiff, Nat.reduceLeDiff, Nat.reduceLT, ↓reduceIte, Int.reduceToNat, reduceCtorEq]
      have fin0 : ∀ H, (q.load > 0 ∨ qb.load < 2) → H = s.heap [.rows 1 [[iv i]], .rows 1 [[iv (-1)]]] → Up 5 post (.ret (.tuple [])) H := fun H hh he => by
        have e1 : s.steal i = s := by rw [S.steal, hfb, hli, hlb, if_pos hh]
        have e2 : s.nSteal i = -1 := by rw [S.nSteal, hfb, hli, hlb, if_pos hh]
        subst hpost he
        exact Up.drop (s := s) (R := [.rows 1 [[iv i]], .rows 1 [[iv (-1)]]]) rfl (hR _) rfl (by simp [S.heap]) rfl ⟨rfl, by rw [e1, e2]⟩
      refine gD_dec (fun hg => ?_) (fun hg => ?_) <;> simp only [go_sem, Nat.reduceAdd, Nat.reduceSub, Nat.reduceMul, Nat.reduceEqDiff, Nat.reduceLeDiff, Nat.reduceLT, ↓reduceIte, Int.reduceToNat, reduceCtorEq, hg]
      · exact fin0 _ (.inl hg) rfl
      · simp only [go_sem, Nat.reduceAdd, Nat.reduceSub, Nat.reduceMul, Nat.reduceEqDiff, Nat.reduceLeDiff, Nat.reduceLT, ↓reduceIte, Int.reduceToNat, reduceCtorEq, S.heap, List.length_map, List.getElem?_map, hqb, hb, hb2, Q.row, Int.natCast_nonneg]
        refine rK_use (enters_of Try.func79 rfl (by decide)) (ACalls.pure_use (load_c qb (h.fit.r qb (List.mem_of_getElem? hqb))) rfl rfl) ?_
        simp only [go_sem, Nat.reduceAdd, Nat.reduceSub, Nat.reduceMul, Nat.reduceEqDiff, Nat.reduceLeDiff, Nat.reduceLT, ↓reduceIte, Int.reduceToNat, reduceCtorEq]
        refine condD_dec (fun hg2 => ?_) (fun hg2 => ?_)
        · simp only [go_sem, Nat.reduceAdd, Nat.reduceSub, Nat.reduceMul, Nat.reduceEqDiff, Nat.reduceLeDiff, Nat.reduceLT, ↓reduceIte, Int.reduceToNat, reduceCtorEq]
          exact fin0 _ (.inr hg2) rfl
        · obtain ⟨x, l, hx⟩ : ∃ x l, qb.ready = x :: l := by
            refine List.exists_cons_of_length_pos ?_
            unfold Q.load at hg2
            split at hg2 <;> omega
          have hxb := (h.rdy b qb hqb).1 x (by simp [hx])
          obtain ⟨j, t, rfl, ht, htc, hts⟩ := S.is_thr hxb
          have hjl : j < s.thr.length := (List.getElem?_eq_some_iff.1 ht).1
          have hd := h.due_h hqb
          have htb : t.cpu.toNat = b := by omega
          have hne : ¬ b = i := fun e => by subst e; rw [hq] at hqb; cases hqb; omega
          have hfr : s.frontOf s.full = j := by simp only [S.frontOf, hfb, hqb, hx]
          have hst : s.steal i = ((s.take j).setCpu j i).put j false := by rw [S.steal, hfr, hfb, hli, hlb, if_neg (by omega)]; rfl
          have hns : s.nSteal i = j := by rw [S.nSteal, hfr, hfb, hli, hlb, if_neg (by omega)]
          obtain ⟨rb, lb, rdb⟩ := qb
          simp only at hx
          subst hx
          have hl0 : (0 : Int) < (l.length + 1 : Nat) := by omega
          simp only [go_sem, Nat.reduceAdd, Nat.reduceSub, Nat.reduceMul, Nat.reduceEqDiff, Nat.reduceLeDiff, Nat.reduceLT, ↓reduceIte, Int.reduceToNat, reduceCtorEq, S.heap, List.length_map, List.getElem?_map, hqb, hb, hb2, Q.row, Int.natCast_nonneg, hl0, Int.le_refl, true_and]
          refine rK_use (enters_of Try.func58 rfl (by decide)) (wuse (R := [.rows 1 [[iv i]], .rows 1 [[iv j]]]) (take_c s j t _ ht (by omega) (by rw [htb]; exact hqb) (h.fit.r _ (List.mem_of_getElem? hqb))) (by simp [ltL, AV.lt]) rfl) ?_
          have ht2 : (s.take j).thr[j]? = some t := by rw [S.take_thr]; exact ht
          have hlt2 : j < (s.take j).thr.length := (List.getElem?_eq_some_iff.1 ht2).1
          have hlt3 : (j : Int) < (s.take j).thr.length := by omega
          have hset : ((s.take j).thr.map T.row).set j [iv t.pri, iv i, iv t.st] = ((s.take j).setCpu j i).thr.map T.row := by rw [S.setCpu_eq ht2, List.map_set]; rfl
          simp only [go_sem, Nat.reduceAdd, Nat.reduceSub, Nat.reduceMul, Nat.reduceEqDiff, Nat.reduceLeDiff, Nat.reduceLT, ↓reduceIte, Int.reduceToNat, reduceCtorEq, S.heap]
          refine draw [.qu 0 0, .qu 0 0, .qu 0 0, .qu 0 0, .qu 0 0, .qu 0 0, .qu 0 0, .qu 0 0, .qu 0 0, .mn 0] (by kernel_rfl) (by kernel_rfl) ?_
          simp only [go_sem, Nat.reduceAdd, Nat.reduceSub, Nat.reduceMul, Nat.reduceEqDiff, Nat.reduceLeDiff, Nat.reduceLT, ↓reduceIte, Int.reduceToNat, reduceCtorEq, S.heap, List.length_map, List.getElem?_map, ht2, hlt2, hlt3, T.row, Int.natCast_nonneg, true_and]
          rw [hset]
          have e1 : ((s.take j).setCpu j i).thr[j]? = some { t with cpu := i } := by rw [S.setCpu_eq ht2]; simp [hlt2]
          have e2 : ((s.take j).setCpu j i).cpus[(i : Int).toNat]? = some q := by rw [S.setCpu_eq ht2, S.take_eq ht (by rw [htb]; exact hqb)]; simp [S.setQ, htb, List.getElem?_set, hne, hq]
          have e3 : ((s.take j).setCpu j i).thr.length = s.thr.length := by rw [S.setCpu_eq ht2, S.take_thr]; simp
          have hh : ∀ R, [Blk.rows 3 [[.sl 1 0 (s.take j).cpus.length none, .sl 2 0 (s.take j).thr.length none, iv (s.take j).quantum]], .rows 3 ((s.take j).cpus.map Q.row), .rows 3 (((s.take j).setCpu j i).thr.map T.row)] ++ R = ((s.take j).setCpu j i).heap R := fun R => by
            rw [S.setCpu_eq ht2, S.heap]; simp
          refine rK_use (enters_of Try.func49 rfl (by decide)) (H' := (((s.take j).setCpu j i).put j false).heap [.rows 1 [[iv i]], .rows 1 [[iv j]]]) (by
            have := hh [.rows 1 [[iv i]], .rows 1 [[iv j]]]
            simp only [List.cons_append, List.nil_append] at this
            rw [this]
            exact wuse (put_c _ j false _ q e1 (by dsimp only; omega) e2 (fun x hx => by rw [e3]; exact (h.due_h hq).1 x hx) (h.fit.r _ (List.mem_of_getElem? hq))) (by simp [ltL, AV.lt]) rfl) ?_
          simp only [go_sem, Nat.reduceAdd, Nat.reduceSub, Nat.reduceMul, Nat.reduceEqDiff, Nat.reduceLeDiff, Nat.reduceLT, ↓reduceIte, Int.reduceToNat, reduceCtorEq, S.heap]
          subst hpost
          exact Up.drop (s := ((s.take j).setCpu j i).put j false) (R := [.rows 1 [[iv i]], .rows 1 [[iv j]]]) rfl (hR _) rfl (by simp) rfl ⟨rfl, by rw [hst, hns]⟩
end Go.Proofs.Ytljepmbikbdicaa

set_option maxRecDepth 100000
set_option linter.unusedVariables false
set_option linter.unusedSimpArgs false
namespace Go.Proofs.Ytljepmbikbdicaa
open Go.AM
def S.more (s : S) (p c : Int) : S := { s with thr := s.thr ++ [⟨p, c, 0⟩] }
def S.eAdd (s : S) (p c : Int) : Option S := match s.cp c with
  | some _ => if (0 ≤ p ∧ p ≤ 7) ∧ s.thr.length < 16 then some ((s.more p c).put s.thr.length false) else none
  | none => none
def S.rAdd (s : S) (p c : Int) : Int := match s.cp c with
  | some _ => if 0 ≤ p ∧ p ≤ 7 then 2 else 1
  | none => 52
theorem Add_pan (s : S) (h : s.Ok) (p c : Int) (hn : s.eAdd p c = none) : ACalls Try.prog 53 [.ptr 0 0 0, .ptr 3 0 0, .ptr 4 0 0, .ptr 5 0 0] (s.heap [.rows 1 [[iv c]], .rows 1 [[iv p]], .rows 1 [[iv 0]]])
    (fun o H => o = .pan (refuse (s.rAdd p c)) ∧ H = [.dead, .dead, .dead, .rows 1 [[iv c]], .rows 1 [[iv p]], .rows 1 [[iv 0]]]) := by
  have hR : ∀ b ∈ [Blk.rows 1 [[iv c]], .rows 1 [[iv p]], .rows 1 [[iv 0]]], b.lt 0 := by simp [Blk.lt, ltL, AV.lt]
  unfold S.eAdd at hn
  unfold S.rAdd
  refine ACalls.up ?_
  refine ACalls.intro (cs := []) (n := 42) Try.func53 rfl rfl rfl (by kernel_rfl) rfl ?_
  generalize hpost : (fun (o : Out) (H : Heap) => o = Out.pan (refuse _) ∧ _) = post
  simp only [go_sem, Nat.reduceAdd, Nat.reduceSub, Nat.reduceMul, Nat.reduceEqDiff, Nat.reduceLeDiff, Nat.reduceLT, ↓reduceIte, Int.reduceToNat, reduceCtorEq, S.heap]
  cases hqc : s.cp c with
  | none =>
    rw [hqc] at hpost
    refine rK_pans (enters_of Try.func47 rfl (by decide)) (wpan (R := [.rows 1 [[iv c]], .rows 1 [[iv p]], .rows 1 [[iv 0]]]) (cpu_no s c (S.cp_none hqc)) (by simp [ltL, AV.lt]) rfl) ?_
    simp only [go_sem, Nat.reduceAdd, Nat.reduceSub, Nat.reduceMul, Nat.reduceEqDiff, Nat.reduceLeDiff, Nat.reduceLT, ↓reduceIte, Int.reduceToNat, reduceCtorEq]
    subst hpost
    exact Up.dropp (R := [.rows 1 [[iv c]], .rows 1 [[iv p]], .rows 1 [[iv 0]]]) (rest := []) rfl hR rfl ⟨rfl, rfl⟩
  | some q =>
    rw [hqc] at hpost hn
    simp only at hpost hn
    obtain ⟨i, rfl, hq⟩ := S.cp_some hqc
    refine rK_use (enters_of Try.func47 rfl (by decide)) (wuse (R := [.rows 1 [[iv i]], .rows 1 [[iv p]], .rows 1 [[iv 0]]]) (cpu_ok s i q hq) (by simp [ltL, AV.lt]) rfl) ?_
    simp only [go_sem, Nat.reduceAdd, Nat.reduceSub, Nat.reduceMul, Nat.reduceEqDiff, Nat.reduceLeDiff, Nat.reduceLT, ↓reduceIte, Int.reduceToNat, reduceCtorEq, S.heap]
    refine rK_use (enters_of Try.func55 rfl (by decide)) (ACalls.pure_use (isPri_c p) rfl rfl) ?_
    by_cases hp : 0 ≤ p ∧ p ≤ 7
    · rw [if_pos hp] at hpost
      have hl : ¬ (s.thr.length : Int) < 16 := by
        intro hl
        rw [if_pos ⟨hp, by omega⟩] at hn
        cases hn
      simp only [go_sem, Nat.reduceAdd, Nat.reduceSub, Nat.reduceMul, Nat.reduceEqDiff, Nat.reduceLeDiff, Nat.reduceLT, ↓reduceIte, Int.reduceToNat, reduceCtorEq, hp]
      refine rK_use (enters_of Try.func54 rfl (by decide)) (ACalls.pure_use (must_t _) rfl rfl) ?_
      simp only [go_sem, Nat.reduceAdd, Nat.reduceSub, Nat.reduceMul, Nat.reduceEqDiff, Nat.reduceLeDiff, Nat.reduceLT, ↓reduceIte, Int.reduceToNat, reduceCtorEq, hl]
      refine rK_pans (enters_of Try.func54 rfl (by decide)) (ACalls.pure_pan (must_f _) rfl rfl) ?_
      simp only [go_sem, Nat.reduceAdd, Nat.reduceSub, Nat.reduceMul, Nat.reduceEqDiff, Nat.reduceLeDiff, Nat.reduceLT, ↓reduceIte, Int.reduceToNat, reduceCtorEq]
      subst hpost
      exact Up.dropp (R := [.rows 1 [[iv i]], .rows 1 [[iv p]], .rows 1 [[iv 0]]]) (rest := []) rfl hR rfl ⟨rfl, rfl⟩
    · rw [if_neg hp] at hpost
      simp only [go_sem, Nat.reduceAdd, Nat.reduceSub, Nat.reduceMul, Nat.reduceEqDiff, Nat.reduceLeDiff, Nat.reduceLT, ↓reduceIte, Int.reduceToNat, reduceCtorEq, hp]
      refine rK_pans (enters_of Try.func54 rfl (by decide)) (ACalls.pure_pan (must_f _) rfl rfl) ?_
      simp only [go_sem, Nat.reduceAdd, Nat.reduceSub, Nat.reduceMul, Nat.reduceEqDiff, Nat.reduceLeDiff, Nat.reduceLT, ↓reduceIte, Int.reduceToNat, reduceCtorEq]
      subst hpost
      exact Up.dropp (R := [.rows 1 [[iv i]], .rows 1 [[iv p]], .rows 1 [[iv 0]]]) (rest := []) rfl hR rfl ⟨rfl, rfl⟩
theorem Add_ret (s : S) (h : s.Ok) (p : Int) (i : Nat) (q : Q) (hq : s.cpus[i]? = some q) (hp : 0 ≤ p ∧ p ≤ 7) (hl : s.thr.length < 16) (s' : S) (hs : s' = (s.more p i).put s.thr.length false) :
    ACalls Try.prog 53 [.ptr 0 0 0, .ptr 3 0 0, .ptr 4 0 0, .ptr 5 0 0] (s.heap [.rows 1 [[iv i]], .rows 1 [[iv p]], .rows 1 [[iv 0]]])
      (fun o H => o = .ret (.tuple []) ∧ H = [.rows 3 [[.sl 1 0 s'.cpus.length none, .sl 7 0 s'.thr.length none, iv s'.quantum]], .rows 3 (s'.cpus.map Q.row), .dead, .rows 1 [[iv i]], .rows 1 [[iv p]], .rows 1 [[iv s.thr.length]], .dead, .rows 3 (s'.thr.map T.row)]) := by
  have hl' : (s.thr.length : Int) < 16 := by omega
  refine ACalls.up ?_
  refine ACalls.intro (cs := []) (n := 42) Try.func53 rfl rfl rfl (by kernel_rfl) rfl ?_
  generalize hpost : (fun (o : Out) (H : Heap) => o = Out.ret (.tuple []) ∧ _) = post
  simp only [go_sem, Nat.reduceAdd, Nat.reduceSub, Nat.reduceMul, Nat.reduceEqDiff, Nat.reduceLeDiff, Nat.reduceLT, ↓reduceIte, Int.reduceToNat, reduceCtorEq, S.heap]
  refine rK_use (enters_of Try.func47 rfl (by decide)) (wuse (R := [.rows 1 [[iv i]], .rows 1 [[iv p]], .rows 1 [[iv 0]]]) (cpu_ok s i q hq) (by simp [ltL, AV.lt]) rfl) ?_
  simp only [go_sem, Nat.reduceAdd, Nat.reduceSub, Nat.reduceMul, Nat.reduceEqDiff, Nat.reduceLeDiff, Nat.reduceLT, ↓reduceIte, Int.reduceToNat, reduceCtorEq, S.heap]
  refine rK_use (enters_of Try.func55 rfl (by decide)) (ACalls.pure_use (isPri_c p) rfl rfl) ?_
  simp only [go_sem, Nat.reduceAdd, Nat.reduceSub, Nat.reduceMul, Nat.reduceEqDiff, Nat.reduceLeDiff, Nat.reduceLT, ↓reduceIte, Int.reduceToNat, reduceCtorEq, hp]
  refine rK_use (enters_of Try.func54 rfl (by decide)) (ACalls.pure_use (must_t _) rfl rfl) ?_
  simp only [go_sem, Nat.reduceAdd, Nat.reduceSub, Nat.reduceMul, Nat.reduceEqDiff, Nat.reduceLeDiff, Nat.reduceLT, ↓reduceIte, Int.reduceToNat, reduceCtorEq, hl']
  refine rK_use (enters_of Try.func54 rfl (by decide)) (ACalls.pure_use (must_t _) rfl rfl) ?_
  simp only [go_sem, Nat.reduceAdd, Nat.reduceSub, Nat.reduceMul, Nat.reduceEqDiff, Nat.reduceLeDiff, Nat.reduceLT, ↓reduceIte, Int.reduceToNat, reduceCtorEq]
  refine draw [.qu 0 2, .qu 0 1, .qu 0 1, .qu 0 1, .qu 0 1, .rd 0 1, .qu 0 0, .qu 0 0, .qu 0 0, .mn 0, .mn 1, .qu 2 2, .qu 2 2, .qu 2 2, .mn 2] (by kernel_rfl) (by kernel_rfl) ?_
  simp only [go_sem, Nat.reduceAdd, Nat.reduceSub, Nat.reduceMul, Nat.reduceEqDiff, Nat.reduceLeDiff, Nat.reduceLT, ↓reduceIte, Int.reduceToNat, reduceCtorEq, List.length_map]
  refine ⟨by omega, ?_⟩
  have hmt : (s.thr.map T.row).take s.thr.length ++ [[iv p, iv i, iv 0]] = (s.more p i).thr.map T.row := by
    rw [List.take_of_length_le (by simp)]
    simp [S.more, T.row]
  rw [hmt]
  have e1 : (s.more p i).thr[s.thr.length]? = some ⟨p, i, 0⟩ := by simp [S.more]
  have e2 : (s.more p i).cpus[(i : Int).toNat]? = some q := hq
  have e3 : (s.more p i).thr.length = s.thr.length + 1 := by simp [S.more]
  have hput : s' = { s with thr := (s.more p i).thr.set s.thr.length ⟨p, i, 1⟩, cpus := s.cpus.set (i : Int).toNat { q with ready := ins q.ready (idxF ((s.more p i).below p false) q.ready 0) s.thr.length } } := by
    rw [hs, S.put_eq e1 e2]; rfl
  refine rK_use (enters_of Try.func49 rfl (by decide)) (ACalls.useE (put_c (s.more p i) s.thr.length false _ q e1 (by dsimp only; omega) e2 (fun x hx => by have := (h.due_h hq).1 x hx; rw [e3]; omega) (h.fit.r _ (List.mem_of_getElem? hq))) [0, 1, 7] (.tuple [])
    [.rows 3 [[.sl 1 0 s'.cpus.length none, .sl 7 0 s'.thr.length none, iv s'.quantum]], .rows 3 (s'.cpus.map Q.row), .dead, .rows 1 [[iv i]], .rows 1 [[iv p]], .rows 1 [[iv s.thr.length]], .rows 3 [[iv p, iv i, iv 0]], .rows 3 (s'.thr.map T.row)]
    (by simp) rfl (by simp) ?_ (by simp [AV.ren, pi]) rfl ?_) ?_
  · simp only [S.heap, List.map_cons, List.map_nil, bren_Q, bren_T]
    simp [Blk.ren, AV.ren, pi, S.more]
  · rw [← hs]
    simp only [S.heap, patch, List.map_cons, List.map_nil, bren_Q, bren_T]
    simp [setMany, Blk.ren, AV.ren, pi]
  simp only [go_sem, Nat.reduceAdd, Nat.reduceSub, Nat.reduceMul, Nat.reduceEqDiff, Nat.reduceLeDiff, Nat.reduceLT, ↓reduceIte, Int.reduceToNat, reduceCtorEq]
  subst hpost
  exact .dead 6 (.done ⟨rfl, rfl⟩)
end Go.Proofs.Ytljepmbikbdicaa

set_option maxRecDepth 100000
set_option linter.unusedVariables false
set_option linter.unusedSimpArgs false
namespace Go.Proofs.Ytljepmbikbdicaa
open Go.AM
theorem do_add (s s' : S) (g : FuncId) (x0 x1 x2 y0 y1 y2 : AV) (hx0 : ∀ m, x0.lt m = true) (hx1 : ∀ m, x1.lt m = true) (hx2 : ∀ m, x2.lt m = true) (hy0 : ∀ m, y0.lt m = true) (hy1 : ∀ m, y1.lt m = true) (hy2 : ∀ m, y2.lt m = true) (hv : s.valid = true) (hf : s.Fit) (hE : Enters Try.prog g)
    (hg : ACalls Try.prog g [.ptr 0 0 0, .ptr 3 0 0, .ptr 4 0 0, .ptr 5 0 0] (s.heap [.rows 1 [[x0]], .rows 1 [[x1]], .rows 1 [[x2]]]) (fun o H => o = .ret (.tuple []) ∧ H = [.rows 3 [[.sl 1 0 s'.cpus.length none, .sl 7 0 s'.thr.length none, iv s'.quantum]], .rows 3 (s'.cpus.map Q.row), .dead, .rows 1 [[y0]], .rows 1 [[y1]], .rows 1 [[y2]], .dead, .rows 3 (s'.thr.map T.row)])) :
    ACalls Try.prog 45 [s.av, .func (.func g) [] [.ptr 0 0 0, .ptr 1 0 0, .ptr 2 0 0]] [.rows 1 [[x0]], .rows 1 [[x1]], .rows 1 [[x2]]] (fun o H => o = .ret (.tuple [s'.av, iv 0]) ∧ H = [.rows 1 [[y0]], .rows 1 [[y1]], .rows 1 [[y2]]]) := by
  refine ACalls.up ?_
  refine ACalls.introD (n := 23) Try.func45 rfl (by kernel_rfl) rfl ?_
  refine DWp.seq (by kernel_rfl) ?_
  generalize hpost : (fun (o : Out) (H : Heap) => o = Out.ret (.tuple [s'.av, iv 0]) ∧ H = [.rows 1 [[y0]], .rows 1 [[y1]], .rows 1 [[y2]]]) = post
  simp only [go_sem, Nat.reduceAdd, Nat.reduceSub, Nat.reduceMul, Nat.reduceEqDiff, Nat.reduceLeDiff, Nat.reduceLT, ↓reduceIte, Int.reduceToNat, reduceCtorEq, S.av]
  refine DWp.seq (by kernel_rfl) ?_
  simp only [go_sem, Nat.reduceAdd, Nat.reduceSub, Nat.reduceMul, Nat.reduceEqDiff, Nat.reduceLeDiff, Nat.reduceLT, ↓reduceIte, Int.reduceToNat, reduceCtorEq]
  refine rK_use (enters_of Try.func51 rfl (by decide)) (ACalls.pure_use (valid_c s) rfl rfl) ?_
  simp only [go_sem, Nat.reduceAdd, Nat.reduceSub, Nat.reduceMul, Nat.reduceEqDiff, Nat.reduceLeDiff, Nat.reduceLT, ↓reduceIte, Int.reduceToNat, reduceCtorEq, hv]
  refine DWp.defer (by kernel_rfl) rfl (by kernel_rfl) (by kernel_rfl) ?_
  simp only [go_sem, Nat.reduceAdd, Nat.reduceSub, Nat.reduceMul, Nat.reduceEqDiff, Nat.reduceLeDiff, Nat.reduceLT, ↓reduceIte, Int.reduceToNat, reduceCtorEq]
  refine ⟨(enters_of Try.func84 rfl (by decide)), fun d => ?_⟩
  refine rK_use (enters_of Try.func85 rfl (by decide)) (clone_u s hf.c hf.t hf.r _ 6 rfl) ?_
  simp only [go_sem, Nat.reduceAdd, Nat.reduceSub, Nat.reduceMul, Nat.reduceEqDiff, Nat.reduceLeDiff, Nat.reduceLT, ↓reduceIte, Int.reduceToNat, reduceCtorEq]
  refine rK_use hE (hg.useE [12, 9, 11, 0, 1, 2] (.tuple []) [.rows 1 [[y0]], .rows 1 [[y1]], .rows 1 [[y2]], .rows 3 [[.view false 3 (s.cpus.map Q.row), .view false 3 (s.thr.map T.row), iv s.quantum]], .rows 3 [[.view true 0 [], .view true 0 [], iv 0]], .rows 1 [[iv 0]],
    .rows 3 [[.sl 9 0 s.cpus.length none, .sl 11 0 s.thr.length none, iv s.quantum]], .rows 3 [[.sl 9 0 s.cpus.length none, .sl 11 0 s.thr.length none, iv s.quantum]], .dead, .rows 3 (s'.cpus.map Q.row), .dead, .dead, .rows 3 [[.sl 9 0 s'.cpus.length none, .sl 14 0 s'.thr.length none, iv s'.quantum]], .dead, .rows 3 (s'.thr.map T.row)]
    (by simp) rfl (by simp) ?_ (by simp [AV.ren, pi]) rfl ?_) ?_
  · simp only [S.heap, List.map_cons, List.map_nil, bren_Q, bren_T]
    simp [Blk.ren, AV.ren, pi, ren_pure (hx0 0), ren_pure (hx1 0), ren_pure (hx2 0)]
  · simp only [S.heap, patch, List.length_cons, List.length_nil, List.drop_succ_cons, List.drop_zero, Nat.zero_add, Nat.reduceAdd, List.map_cons, List.map_nil, bren_Q, bren_T]
    simp [setMany, Blk.ren, AV.ren, pi, ren_pure (hy0 0), ren_pure (hy1 0), ren_pure (hy2 0)]
  simp only [go_sem, Nat.reduceAdd, Nat.reduceSub, Nat.reduceMul, Nat.reduceEqDiff, Nat.reduceLeDiff, Nat.reduceLT, ↓reduceIte, Int.reduceToNat, reduceCtorEq]
  refine ADef.intro (n := 14) Try.func84 rfl rfl (by kernel_rfl) rfl (by kernel_rfl) ?_
  simp only [go_sem, Nat.reduceAdd, Nat.reduceSub, Nat.reduceMul, Nat.reduceEqDiff, Nat.reduceLeDiff, Nat.reduceLT, ↓reduceIte, Int.reduceToNat, reduceCtorEq, do_res]
  subst hpost
  refine Up.kill [3, 4, 5, 6, 7, 12] _ ?_
  simp only [kill, List.set_cons_zero, List.set_cons_succ]
  refine .fz 9 3 (s'.cpus.map Q.row) rfl (Q.rows_pure _) (by simp [Out.fzOk, AV.fzOk, fzOkL]) ?_ ?_
  · simp only [List.set_cons_zero, List.set_cons_succ, List.forall_mem_cons, bok_T, bok_1 hy0, bok_1 hy1, bok_1 hy2, bok_dead, true_and, and_true, List.not_mem_nil, false_implies, implies_true]
  simp only [Out.fz, AV.fz, fzL, List.set_cons_zero, List.set_cons_succ, List.map_cons, List.map_nil, bfz_T, bfz_1 hy0, bfz_1 hy1, bfz_1 hy2]
  simp only [Blk.fz, if_true, if_false, List.drop_zero, Nat.reduceEqDiff, reduceIte]
  rw [List.take_of_length_le (by simp)]
  refine .fz 14 3 (s'.thr.map T.row) rfl (T.rows_pure _) (by simp [Out.fzOk, AV.fzOk, fzOkL]) ?_ ?_
  · simp only [List.set_cons_zero, List.set_cons_succ, List.forall_mem_cons, bok_T, bok_1 hy0, bok_1 hy1, bok_1 hy2, bok_dead, true_and, and_true, List.not_mem_nil, false_implies, implies_true]
  simp only [Out.fz, AV.fz, fzL, List.set_cons_zero, List.set_cons_succ, List.map_cons, List.map_nil, bfz_T, bfz_1 hy0, bfz_1 hy1, bfz_1 hy2]
  simp only [Blk.fz, if_true, if_false, List.drop_zero, Nat.reduceEqDiff, reduceIte]
  rw [List.take_of_length_le (by simp)]
  refine .gc 3 (Nat.le_refl _) (by simp) (by simp [Out.lt, AV.lt, ltL]) (by simp [Blk.lt, ltL, hy0, hy1, hy2]) (.done ⟨rfl, rfl⟩)

end Go.Proofs.Ytljepmbikbdicaa
