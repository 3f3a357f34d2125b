/- Sched: preemption. No condition. -/
import Derived.Test.YtljepmbikbdicaaSD
set_option maxRecDepth 100000
set_option linter.unusedVariables false
set_option linter.unusedSimpArgs false
namespace Go.Proofs.Ytljepmbikbdicaa
open Go.AM
theorem S.Ok.preempt {s : S} (h : s.Ok) {c : Nat} {q : Q} (hq : s.cpus[c]? = some q) (hd : s.due c = true) (hr : q.run ≠ -1) :
    ∃ (i : Nat) (t : T) (a b : List Int) (x : Int), q.run = i ∧ s.thr[i]? = some t ∧ (s.sw c).cpus[c]? = some ⟨x, s.quantum, a ++ (i : Int) :: b⟩ ∧ x ≠ i ∧ (i : Int) ∉ a ∧ (i : Int) ∉ b ∧ (∀ y, (s.sw c).pri y = s.pri y) ∧
      (0 < q.left → ∀ y ∈ a, s.pri i < s.pri y) ∧ (q.left ≤ 0 → ∀ y m, b = y :: m → s.pri y < s.pri i) := by
  have h2 := (h.run c q hq).resolve_left (by omega)
  obtain ⟨i, t, hi, ht, htc, hts⟩ := S.is_thr h2.1
  have hcc : t.cpu.toNat = c := by omega
  have hq' : s.cpus[t.cpu.toNat]? = some q := by rw [hcc]; exact hq
  have hpi : s.pri i = t.pri := by simp [S.pri, ht]
  have hno : (i : Int) ∉ q.ready := fun hm => by
    have := (is_cpu ((h.rdy c q hq).1 i hm) (is_of ht)).2
    omega
  obtain ⟨x, l, g1, g2⟩ := h.sw_due hq hd
  have hidle := (h.idle hq).1
  -- the queue with the thread in it
  have e0 : q.run.toNat = i := by omega
  have hidq : s.idle q = (s.take i).put i (decide (0 < q.left)) := by rw [S.idle, if_pos (by omega), e0]
  have hout : q.out i = ⟨-1, 0, q.ready⟩ := by simp [Q.out, hi, List.erase_of_not_mem hno]
  have htk : s.take i = s.setQ c ⟨-1, 0, q.ready⟩ := by rw [S.take_eq ht hq', hout, hcc]
  have hlc : c < s.cpus.length := (List.getElem?_eq_some_iff.1 hq).1
  have ht2 : (s.setQ c ⟨-1, 0, q.ready⟩).thr[i]? = some t := ht
  have hq2 : (s.setQ c ⟨-1, 0, q.ready⟩).cpus[t.cpu.toNat]? = some ⟨-1, 0, q.ready⟩ := by rw [hcc]; exact setQ_self hlc
  have hbe : ∀ f, (s.setQ c ⟨-1, 0, q.ready⟩).below t.pri f = s.below t.pri f := fun f => rfl
  obtain ⟨a, b, hab, hins, ha, hb⟩ := ins_idxF (s.below t.pri (decide (0 < q.left))) q.ready i
  have hput : s.idle q = { s with thr := s.thr.set i { t with st := 1 }, cpus := (s.setQ c ⟨-1, 0, q.ready⟩).cpus.set c ⟨-1, 0, a ++ (i : Int) :: b⟩ } := by
    rw [hidq, htk, S.put_eq ht2 hq2, hbe, hcc]
    simp only [hins]
    rfl
  have hcl : (s.idle q).cpus[c]? = some ⟨-1, 0, a ++ (i : Int) :: b⟩ := by rw [hput]; simp [S.setQ, hlc]
  rw [g1] at hcl
  have hxl : x :: l = a ++ (i : Int) :: b := by
    have := Option.some.inj hcl
    injection this
  -- the front is not the thread
  obtain ⟨y, m, hy⟩ := S.due_ready hq hd
  have hdue := S.due_eq hq
  rw [hd, hy] at hdue
  simp only [if_neg hr] at hdue
  have hane : a ≠ [] := by
    intro e
    subst e
    rw [hy] at hab
    have h1 := hb y m (by simpa using hab.symm)
    simp [S.below] at h1
    have h3 := hdue.symm
    simp at h3
    rw [hi, hpi] at h3
    omega
  obtain ⟨x', a', rfl⟩ := List.exists_cons_of_ne_nil hane
  simp only [List.cons_append, List.cons.injEq] at hxl
  obtain ⟨rfl, rfl⟩ := hxl
  have hmem : ∀ z, z ∈ x :: a' ∨ z ∈ b → z ∈ q.ready := fun z hz => by rw [hab]; simp only [List.mem_append]; exact hz
  have hthr : (s.idle q).thr = s.thr.set i { t with st := 1 } := by rw [hput]
  have hqu : (s.idle q).quantum = s.quantum := by rw [hput]
  have hpr1 : ∀ z, (s.idle q).pri z = s.pri z := fun z => by
    have : (s.idle q).pri z = (s.modT i { t with st := 1 }).pri z := by simp only [S.pri, hthr, S.modT]
    rw [this, modSt_pri ht]
  obtain ⟨j, tj, hj, htj, _, _, hfore⟩ := hidle.fore_at g1
  refine ⟨i, t, a', b, x, hi, ht, ?_, ?_, ?_, ?_, ?_, ?_, ?_⟩
  · rw [g2, hfore, hqu]
    exact setQ_self (by rw [hput]; simp [S.setQ, S.modT, hlc])
  · exact fun e => hno (e ▸ hmem x (by simp))
  · exact fun e => hno (hmem i (by simp [e]))
  · exact fun e => hno (hmem i (by simp [e]))
  · intro z
    rw [g2, hfore, setQ_pri, modSt_pri htj, hpr1]
  · intro hl z hz
    have := ha z (by simp [hz])
    simp [S.below, hl] at this
    rw [hpi]; omega
  · intro hl z n hz
    have := hb z n hz
    have hl' : ¬ 0 < q.left := by omega
    simp [S.below, hl'] at this
    rw [hpi]; omega
end Go.Proofs.Ytljepmbikbdicaa

set_option maxRecDepth 100000
set_option linter.unusedVariables false
set_option linter.unusedSimpArgs false
namespace Go.Proofs.Ytljepmbikbdicaa
open Go.AM
theorem preempts_c (s : S) (n : Int) : ACalls Try.prog 5 [s.av, iv n] [] (fun o H => o = .ret (.bool true) ∧ H = []) := by
  refine ACalls.up ?_
  refine ACalls.intro (cs := []) (n := 124) Try.func5 rfl rfl rfl (by kernel_rfl) rfl ?_
  have fin : ∀ b H, b = true → Up 0 (fun (o : Out) (H : Heap) => o = Out.ret (.bool true) ∧ H = []) (.ret (.bool b)) H := fun b H e => by subst e; exact up_bool ⟨rfl, rfl⟩
  generalize (fun (o : Out) (H : Heap) => o = Out.ret (.bool true) ∧ H = []) = post at fin ⊢
  simp only [go_sem, Nat.reduceAdd, Nat.reduceSub, Nat.reduceMul, Nat.reduceEqDiff, Nat.reduceLeDiff, Nat.reduceLT, ↓reduceIte, Int.reduceToNat, reduceCtorEq, S.av]
  refine rK_use (enters_of Try.func13 rfl (by decide)) (ACalls.pure_use (sane_c) rfl rfl) ?_
  simp only [go_sem, Nat.reduceAdd, Nat.reduceSub, Nat.reduceMul, Nat.reduceEqDiff, Nat.reduceLeDiff, Nat.reduceLT, ↓reduceIte, Int.reduceToNat, reduceCtorEq]
  refine Decidable.byCases (p := s.valid = true) (fun hv => ?_) (fun hv => ?_)
  rotate_left
  · refine rK_use (enters_of Try.func14 rfl (by decide)) (ACalls.pure_use (Switch_bad (S.not_valid hv)) rfl rfl) ?_
    simp only [go_sem, Nat.reduceAdd, Nat.reduceSub, Nat.reduceMul, Nat.reduceEqDiff, Nat.reduceLeDiff, Nat.reduceLT, ↓reduceIte, Int.reduceToNat, reduceCtorEq, Int.cast_ofNat_Int, Int.reduceLT, Int.reduceLE, Int.reduceGT, Int.reduceGE, Int.reduceEq, Int.reduceNe, Int.reduceNeg, Int.reduceAdd, Int.reduceSub, Int.le_refl, S.av]
    exact fin _ _ rfl
  have hok := (valid_iff s).1 hv
  cases hc : s.cp n with
  | none =>
    refine rK_use (enters_of Try.func14 rfl (by decide)) (ACalls.pure_use (Switch_none hv hc) rfl rfl) ?_
    simp only [go_sem, Nat.reduceAdd, Nat.reduceSub, Nat.reduceMul, Nat.reduceEqDiff, Nat.reduceLeDiff, Nat.reduceLT, ↓reduceIte, Int.reduceToNat, reduceCtorEq, Int.cast_ofNat_Int, Int.reduceLT, Int.reduceLE, Int.reduceGT, Int.reduceGE, Int.reduceEq, Int.reduceNe, Int.reduceNeg, Int.reduceAdd, Int.reduceSub, Int.le_refl, S.av]
    exact fin _ _ rfl
  | some q =>
    obtain ⟨c, rfl, hq⟩ := S.cp_some hc
    have hlt : c < s.cpus.length := (List.getElem?_eq_some_iff.1 hq).1
    have hlt2 : (c : Int) < s.cpus.length := by omega
    obtain ⟨h1, h2, q', hq'⟩ := hok.high hlt
    refine rK_use (enters_of Try.func14 rfl (by decide)) (ACalls.pure_use (Switch_some hv hq hq') rfl rfl) ?_
    simp only [go_sem, Nat.reduceAdd, Nat.reduceSub, Nat.reduceMul, Nat.reduceEqDiff, Nat.reduceLeDiff, Nat.reduceLT, ↓reduceIte, Int.reduceToNat, reduceCtorEq, Int.cast_ofNat_Int, Int.reduceLT, Int.reduceLE, Int.reduceGT, Int.reduceGE, Int.reduceEq, Int.reduceNe, Int.reduceNeg, Int.reduceAdd, Int.reduceSub, Int.le_refl, S.av]
    refine rK_use (enters_of Try.func15 rfl (by decide)) (ACalls.pure_use (Due_some hv hq) rfl rfl) ?_
    cases hd : s.due c
    · simp only [go_sem, Nat.reduceAdd, Nat.reduceSub, Nat.reduceMul, Nat.reduceEqDiff, Nat.reduceLeDiff, Nat.reduceLT, ↓reduceIte, Int.reduceToNat, reduceCtorEq, Int.cast_ofNat_Int, Int.reduceLT, Int.reduceLE, Int.reduceGT, Int.reduceGE, Int.reduceEq, Int.reduceNe, Int.reduceNeg, Int.reduceAdd, Int.reduceSub, Int.le_refl, S.av]
      exact fin _ _ rfl
    simp only [go_sem, Nat.reduceAdd, Nat.reduceSub, Nat.reduceMul, Nat.reduceEqDiff, Nat.reduceLeDiff, Nat.reduceLT, ↓reduceIte, Int.reduceToNat, reduceCtorEq, Int.cast_ofNat_Int, Int.reduceLT, Int.reduceLE, Int.reduceGT, Int.reduceGE, Int.reduceEq, Int.reduceNe, Int.reduceNeg, Int.reduceAdd, Int.reduceSub, Int.le_refl, S.av, List.length_map, List.getElem?_map, hq, hlt, hlt2, Int.natCast_nonneg, true_and, Q.row]
    refine condD_dec (fun hr => ?_) (fun hr => ?_)
    · simp only [go_sem, Nat.reduceAdd, Nat.reduceSub, Nat.reduceMul, Nat.reduceEqDiff, Nat.reduceLeDiff, Nat.reduceLT, ↓reduceIte, Int.reduceToNat, reduceCtorEq, Int.cast_ofNat_Int, Int.reduceLT, Int.reduceLE, Int.reduceGT, Int.reduceGE, Int.reduceEq, Int.reduceNe, Int.reduceNeg, Int.reduceAdd, Int.reduceSub, Int.le_refl]
      exact fin _ _ rfl
    obtain ⟨i, t, a, b, x, hi, ht, hcx, hxi, hia, hib, hpr, hp1, hp2⟩ := hok.preempt hq hd hr
    rw [hcx] at hq'
    cases hq'
    have hlt3 : c < (s.sw c).cpus.length := (List.getElem?_eq_some_iff.1 hcx).1
    have hlt4 : (c : Int) < (s.sw c).cpus.length := by omega
    have hrd := (h1.rdy c _ hcx)
    have hrng := (h1.due_h hcx).1
    have hi0 : 0 ≤ q.run := by omega
    have h16 := h1.fit.r _ (List.mem_of_getElem? hcx)
    generalize s.sw c = u at *
    simp only at hrd hrng h16
    simp only [go_sem, Nat.reduceAdd, Nat.reduceSub, Nat.reduceMul, Nat.reduceEqDiff, Nat.reduceLeDiff, Nat.reduceLT, ↓reduceIte, Int.reduceToNat, reduceCtorEq, Int.cast_ofNat_Int, Int.reduceLT, Int.reduceLE, Int.reduceGT, Int.reduceGE, Int.reduceEq, Int.reduceNe, Int.reduceNeg, Int.reduceAdd, Int.reduceSub, Int.le_refl, S.av, List.length_map, List.getElem?_map, hq, hcx, hlt, hlt2, hlt3, hlt4, Int.natCast_nonneg, true_and, Q.row]
    generalize hL : a ++ (i : Int) :: b = L at *
    have hLi : ∀ (k : Nat) y, L[k]? = some y → (y = q.run ↔ k = a.length) := fun k y hk => by
      rw [← hL] at hk
      rw [hi]
      rcases Nat.lt_trichotomy k a.length with h | h | h
      · rw [List.getElem?_append_left h] at hk
        exact ⟨fun e => absurd (e ▸ List.mem_of_getElem? hk) hia, fun e => by omega⟩
      · subst h
        simp at hk
        exact ⟨fun _ => rfl, fun _ => hk.symm⟩
      · rw [List.getElem?_append_right (by omega)] at hk
        rw [show k - a.length = (k - a.length - 1) + 1 by omega, List.getElem?_cons_succ] at hk
        exact ⟨fun e => absurd (e ▸ List.mem_of_getElem? hk) hib, fun e => by omega⟩
    have hLl : L.length = a.length + b.length + 1 := by rw [← hL]; simp; omega
    refine loop_fam (fun k : Nat => ((((((((Ch.nil.put 1 (iv c)).put 2 (.ptr 0 0 0)).put 6 (.ptr 1 0 0)).put 7 (iv x)).put 9 (iv q.run)).put 10 (.view false 1 (L.map r1))).put 12 (iv k)).put 11 (iv (if a.length < k then a.length else -1))))
      (fun _ => [.rows 3 [[.view false 3 (s.cpus.map Q.row), .view false 3 (s.thr.map T.row), iv s.quantum]], .rows 3 [[.view false 3 (u.cpus.map Q.row), .view false 3 (u.thr.map T.row), iv u.quantum]]]) (fun k => L.length - k) (fun k => k ≤ L.length) 0 (by kernel_rfl) (Nat.zero_le _) (Wk.slots' rfl (by simp [wkS, Ch.get])) ?_
    rintro k hk K hK
    simp only [go_sem, Nat.reduceAdd, Nat.reduceSub, Nat.reduceMul, Nat.reduceEqDiff, Nat.reduceLeDiff, Nat.reduceLT, ↓reduceIte, Int.reduceToNat, reduceCtorEq, Int.cast_ofNat_Int, Int.reduceLT, Int.reduceLE, Int.reduceGT, Int.reduceGE, Int.reduceEq, Int.reduceNe, Int.reduceNeg, Int.reduceAdd, Int.reduceSub, Int.le_refl, List.length_map]
    refine condD_dec (fun hg => ?_) (fun hg => ?_)
    · have hk' : k < L.length := by omega
      obtain ⟨y, hy⟩ := at_lt hk'
      have hyi := hLi k y hy
      have e1 : iw .i64 ((k : Int) + 1) = ((k + 1 : Nat) : Int) := by rw [iw64] <;> omega
      simp only [go_sem, Nat.reduceAdd, Nat.reduceSub, Nat.reduceMul, Nat.reduceEqDiff, Nat.reduceLeDiff, Nat.reduceLT, ↓reduceIte, Int.reduceToNat, reduceCtorEq, Int.cast_ofNat_Int, Int.reduceLT, Int.reduceLE, Int.reduceGT, Int.reduceGE, Int.reduceEq, Int.reduceNe, Int.reduceNeg, Int.reduceAdd, Int.reduceSub, Int.le_refl, List.length_map, List.getElem?_map, hy, hg, hk', Int.natCast_nonneg, true_and]
      refine condD_dec (fun he => ?_) (fun he => ?_)
      · have := hyi.1 he
        simp only [go_sem, Nat.reduceAdd, Nat.reduceSub, Nat.reduceMul, Nat.reduceEqDiff, Nat.reduceLeDiff, Nat.reduceLT, ↓reduceIte, Int.reduceToNat, reduceCtorEq, Int.cast_ofNat_Int, Int.reduceLT, Int.reduceLE, Int.reduceGT, Int.reduceGE, Int.reduceEq, Int.reduceNe, Int.reduceNeg, Int.reduceAdd, Int.reduceSub, Int.le_refl, e1]
        exact hK (k + 1) _ _ hk' (by omega) (Wk.slots' rfl (by simp [wkS, Ch.get]; rw [if_pos (by omega)]; omega))
      · have : ¬ k = a.length := fun e => he (hyi.2 e)
        simp only [go_sem, Nat.reduceAdd, Nat.reduceSub, Nat.reduceMul, Nat.reduceEqDiff, Nat.reduceLeDiff, Nat.reduceLT, ↓reduceIte, Int.reduceToNat, reduceCtorEq, Int.cast_ofNat_Int, Int.reduceLT, Int.reduceLE, Int.reduceGT, Int.reduceGE, Int.reduceEq, Int.reduceNe, Int.reduceNeg, Int.reduceAdd, Int.reduceSub, Int.le_refl, e1]
        refine hK (k + 1) _ _ hk' (by omega) (Wk.slots' rfl (by
          simp [wkS, Ch.get]
          split <;> split <;> first | rfl | omega))
    · have hkL : k = L.length := by omega
      subst hkL
      rw [if_pos (by omega)]
      have hn0 : ¬ (a.length : Int) < 0 := by omega
      have hxr : ¬ x = q.run := by rw [hi]; exact hxi
      have hil : i < u.thr.length := by
        have := hrng i (by rw [← hL]; simp)
        omega
      have hir : q.run.toNat = i := by omega
      obtain ⟨ti, hti⟩ := at_lt hil
      have hpi : u.pri i = ti.pri := by simp [S.pri, hti]
      have hrl : q.run < u.thr.length := by omega
      simp only [go_sem, Nat.reduceAdd, Nat.reduceSub, Nat.reduceMul, Nat.reduceEqDiff, Nat.reduceLeDiff, Nat.reduceLT, ↓reduceIte, Int.reduceToNat, reduceCtorEq, Int.cast_ofNat_Int, Int.reduceLT, Int.reduceLE, Int.reduceGT, Int.reduceGE, Int.reduceEq, Int.reduceNe, Int.reduceNeg, Int.reduceAdd, Int.reduceSub, Int.le_refl, hn0, hxr, List.length_map, List.getElem?_map, hir, hti, hil, hi0, hrl, true_and, T.row, hq, hlt, hlt2, Int.natCast_nonneg, Q.row]
      refine condD_dec (fun hl => ?_) (fun hl => ?_)
      · simp only [go_sem, Nat.reduceAdd, Nat.reduceSub, Nat.reduceMul, Nat.reduceEqDiff, Nat.reduceLeDiff, Nat.reduceLT, ↓reduceIte, Int.reduceToNat, reduceCtorEq, Int.cast_ofNat_Int, Int.reduceLT, Int.reduceLE, Int.reduceGT, Int.reduceGE, Int.reduceEq, Int.reduceNe, Int.reduceNeg, Int.reduceAdd, Int.reduceSub, Int.le_refl]
        refine draw [.qu 0 0, .qu 0 0, .qu 0 0, .qu 0 0, .qu 0 0, .qu 0 0, .qu 0 0, .qu 0 0, .qu 0 0, .qu 0 0, .qu 0 0, .qu 0 0, .qu 0 0, .qu 0 0, .qu 0 0, .qu 0 0, .qu 0 0] (by kernel_rfl) (by kernel_rfl) ?_
        simp only [go_sem, Nat.reduceAdd, Nat.reduceSub, Nat.reduceMul, Nat.reduceEqDiff, Nat.reduceLeDiff, Nat.reduceLT, ↓reduceIte, Int.reduceToNat, reduceCtorEq, Int.cast_ofNat_Int, Int.reduceLT, Int.reduceLE, Int.reduceGT, Int.reduceGE, Int.reduceEq, Int.reduceNe, Int.reduceNeg, Int.reduceAdd, Int.reduceSub, Int.le_refl]
        refine dG_dec (fun h0 => ?_) (fun h0 => ?_)
        · simp only [go_sem, Nat.reduceAdd, Nat.reduceSub, Nat.reduceMul, Nat.reduceEqDiff, Nat.reduceLeDiff, Nat.reduceLT, ↓reduceIte, Int.reduceToNat, reduceCtorEq, Int.cast_ofNat_Int, Int.reduceLT, Int.reduceLE, Int.reduceGT, Int.reduceGE, Int.reduceEq, Int.reduceNe, Int.reduceNeg, Int.reduceAdd, Int.reduceSub, Int.le_refl, h0]
          exact fin _ _ rfl
        · have hal : 0 < a.length := by omega
          have e1 : iw .i64 ((a.length : Int) - 1) = ((a.length - 1 : Nat) : Int) := by rw [iw64] <;> omega
          obtain ⟨y, hy⟩ : ∃ y, a[a.length - 1]? = some y := at_lt (by omega)
          have hyL : L[a.length - 1]? = some y := by rw [← hL, List.getElem?_append_left (by omega)]; exact hy
          have hym : y ∈ L := List.mem_of_getElem? hyL
          have hy0 := hrng y hym
          obtain ⟨ty, hty⟩ : ∃ z, u.thr[y.toNat]? = some z := at_lt (by omega)
          have hyl : y.toNat < u.thr.length := by omega
          have hpy : u.pri y = ty.pri := by simp [S.pri, hty]
          have hgt := hp1 hl y (List.mem_of_getElem? hy)
          rw [← hpr, ← hpr, hpi, hpy] at hgt
          have hb1 : a.length - 1 < L.length := by omega
          have hb2 : ((a.length - 1 : Nat) : Int) < L.length := by omega
          simp only [go_sem, Nat.reduceAdd, Nat.reduceSub, Nat.reduceMul, Nat.reduceEqDiff, Nat.reduceLeDiff, Nat.reduceLT, ↓reduceIte, Int.reduceToNat, reduceCtorEq, Int.cast_ofNat_Int, Int.reduceLT, Int.reduceLE, Int.reduceGT, Int.reduceGE, Int.reduceEq, Int.reduceNe, Int.reduceNeg, Int.reduceAdd, Int.reduceSub, Int.le_refl, h0, e1, List.length_map, List.getElem?_map, hyL, hb1, hb2, Int.natCast_nonneg, true_and, hty, hyl, hy0, T.row]
          exact fin _ _ (decide_eq_true (by omega))
      · simp only [go_sem, Nat.reduceAdd, Nat.reduceSub, Nat.reduceMul, Nat.reduceEqDiff, Nat.reduceLeDiff, Nat.reduceLT, ↓reduceIte, Int.reduceToNat, reduceCtorEq, Int.cast_ofNat_Int, Int.reduceLT, Int.reduceLE, Int.reduceGT, Int.reduceGE, Int.reduceEq, Int.reduceNe, Int.reduceNeg, Int.reduceAdd, Int.reduceSub, Int.le_refl]
        refine draw [.qu 0 0, .qu 0 0, .qu 0 0, .qu 0 0, .qu 0 0, .qu 0 0, .qu 0 0, .qu 0 0, .qu 0 0, .qu 0 0, .qu 0 0, .qu 0 0, .qu 0 0, .qu 0 0, .qu 0 0, .qu 0 0, .qu 0 0, .qu 0 0, .qu 0 0, .qu 0 0] (by kernel_rfl) (by kernel_rfl) ?_
        have e2 : iw .i64 ((L.length : Int) - 1) = ((L.length - 1 : Nat) : Int) := by rw [iw64] <;> omega
        simp only [go_sem, Nat.reduceAdd, Nat.reduceSub, Nat.reduceMul, Nat.reduceEqDiff, Nat.reduceLeDiff, Nat.reduceLT, ↓reduceIte, Int.reduceToNat, reduceCtorEq, Int.cast_ofNat_Int, Int.reduceLT, Int.reduceLE, Int.reduceGT, Int.reduceGE, Int.reduceEq, Int.reduceNe, Int.reduceNeg, Int.reduceAdd, Int.reduceSub, Int.le_refl, List.length_map, e2]
        refine dG_dec (fun h0 => ?_) (fun h0 => ?_)
        · simp only [go_sem, Nat.reduceAdd, Nat.reduceSub, Nat.reduceMul, Nat.reduceEqDiff, Nat.reduceLeDiff, Nat.reduceLT, ↓reduceIte, Int.reduceToNat, reduceCtorEq, Int.cast_ofNat_Int, Int.reduceLT, Int.reduceLE, Int.reduceGT, Int.reduceGE, Int.reduceEq, Int.reduceNe, Int.reduceNeg, Int.reduceAdd, Int.reduceSub, Int.le_refl, h0]
          exact fin _ _ rfl
        · have hbl : 0 < b.length := by omega
          have e1 : iw .i64 ((a.length : Int) + 1) = ((a.length + 1 : Nat) : Int) := by rw [iw64] <;> omega
          obtain ⟨y, m, hb⟩ := List.exists_cons_of_length_pos hbl
          have hyL : L[a.length + 1]? = some y := by rw [← hL, List.getElem?_append_right (by omega)]; simp [hb]
          have hym : y ∈ L := List.mem_of_getElem? hyL
          have hy0 := hrng y hym
          obtain ⟨ty, hty⟩ : ∃ z, u.thr[y.toNat]? = some z := at_lt (by omega)
          have hyl : y.toNat < u.thr.length := by omega
          have hpy : u.pri y = ty.pri := by simp [S.pri, hty]
          have hgt := hp2 (by omega) y m hb
          rw [← hpr, ← hpr, hpi, hpy] at hgt
          have hb1 : a.length + 1 < L.length := by omega
          have hb2 : ((a.length + 1 : Nat) : Int) < L.length := by omega
          simp only [go_sem, Nat.reduceAdd, Nat.reduceSub, Nat.reduceMul, Nat.reduceEqDiff, Nat.reduceLeDiff, Nat.reduceLT, ↓reduceIte, Int.reduceToNat, reduceCtorEq, Int.cast_ofNat_Int, Int.reduceLT, Int.reduceLE, Int.reduceGT, Int.reduceGE, Int.reduceEq, Int.reduceNe, Int.reduceNeg, Int.reduceAdd, Int.reduceSub, Int.le_refl, h0, e1, List.length_map, List.getElem?_map, hyL, hb1, hb2, Int.natCast_nonneg, true_and, hty, hyl, hy0, T.row]
          exact fin _ _ (decide_eq_true (by omega))
end Go.Proofs.Ytljepmbikbdicaa

set_option maxRecDepth 100000
set_option linter.unusedVariables false
set_option linter.unusedSimpArgs false
namespace Go.Proofs.Ytljepmbikbdicaa.schedPreempts
open Go.AM
open Go.ChangeShapes Go.WideShapes Go.ChangeAt Go.RowKit
theorem own : ownKnob Try.prog.godebug = none := by kernel_rfl
theorem lifted (os : Os) (started : os.Started) (H : Type) (enc : TypeId × Value → H) :
    ReturnsInHanded {} Try.checked os 5 .any (Rows.schedPreemptsSpec.pre6 enc Try.prog Try.f5 Rows.schedPreemptsRow.domain false) (Rows.schedPreemptsSpec.post enc Try.prog Try.f5 false true false false) := by
  refine returnsInHanded_of_change (C := Try.checked) own started (by kernel_rfl) Try.func5
    (ChangeSpec.witness6 (enc := enc) (C := Try.checked) false ⟨#[], #[.agg #[.slice none 0 0, .slice none 0 0, .int .i64 0], .int .i64 0], []⟩ 8 (by kernel_rfl) (by kernel_rfl) (by kernel_rfl) (by kernel_rfl)) ?_
  intro W base args ds gs before hval0 hW hcnd _
  have hval : ∀ (j : Nat) t v, Try.f5.params[j]? = some t → args[j]? = some v → Value.okWide Try.prog W .any base t v := hval0
  have hW' := hW
  obtain ⟨p, q, hA0, hV, rfl, hfz, hnd⟩ := hW'
  have hA : DataW.TrodAll enc Try.prog W 0 (fun _ => true) true Try.f5.params.toList args.toList ds p := hA0
  rw [Try.params5] at hA hval
  obtain ⟨v0, vs0, d0, ds0, p0, q0, hargs, rfl, rfl, h0, r0⟩ := trodAll_cons hA
  obtain ⟨v1, vs1, d1, ds1, p1, q1, rfl, rfl, rfl, h1, r1⟩ := trodAll_cons r0
  obtain ⟨rfl, rfl, rfl⟩ := trodAll_nil r1
  obtain rfl : args = #[v0, v1] := by cases args; simp_all
  obtain ⟨a0, g0⟩ := read_sched (hval 0 _ v0 rfl rfl) h0
  obtain ⟨a1, g1, w1⟩ := read_int (hval 1 _ v1 rfl rfl) h1
  refine law_contract (preempts_c a0 a1) hW rfl rfl Try.underlying4 rfl lout ?_ (vrs_cons g0 (vrs_cons g1 vrs_nil))
  intro t ht
  rw [Try.params5] at ht
  simp only [List.mem_cons, List.not_mem_nil, or_false] at ht
  rcases ht with rfl | rfl
  · exact rd_sched
  · exact rd_int
theorem over : Rows.schedPreemptsRow.holds Try.pinned (OpenSpec.ofChange Rows.schedPreemptsSpec) :=
  OpenClaim.holds_of_wide 5 Try.f5 rfl rfl rfl rfl rfl rfl rfl ⟨rfl, rfl, rfl, rfl, rfl⟩ rfl rfl rfl rfl rfl (by kernel_rfl) Try.func5 (by kernel_rfl)
    (of_decide_eq_true (by kernel_rfl)) (by unfold Func.isWrapper; first | (rw [if_pos (by decide +kernel)]; kernel_rfl) | (rw [if_neg (by decide +kernel)]; exact ⟨rfl, rfl⟩))
    (fun os started H enc _ => lifted os started H enc)
end Go.Proofs.Ytljepmbikbdicaa.schedPreempts
namespace Go.Proofs.Ytljepmbikbdicaa
theorem SchedPreempts_holds : Rows.SchedPreemptsSaid := schedPreempts.over
end Go.Proofs.Ytljepmbikbdicaa
