/- Sched: the reference's operations with errors are the program's. No condition. -/
import Derived.Test.YtljepmbikbdicaaSH
import Derived.Test.YtljepmbikbdicaaSD
set_option maxRecDepth 100000
set_option linter.unusedVariables false
set_option linter.unusedSimpArgs false
namespace Go.Proofs.Ytljepmbikbdicaa
open Go.AM
theorem leave_eq {s : S} (h : s.Ok) {i : Nat} {t : T} (ht : s.thr[i]? = some t) (hst : t.st = 1 ∨ t.st = 2 ∨ t.st = 3) (st : Int) : s.rLeave i t st = (s.take i).setSt i st := by
  obtain ⟨q, hq, hc, hrd, hql⟩ := h.at ht
  have hcc : (t.cpu.toNat : Int) = t.cpu := by omega
  have hno : t.st ≠ 1 → (i : Int) ∉ q.ready := fun hs hm => by
    have := (is_cpu ((h.rdy _ q hq).1 i hm) (is_of ht)).2
    omega
  unfold S.rLeave
  congr 1
  by_cases a1 : t.st = 1
  · rw [if_pos a1, take_deq h ht a1 hq]
  rw [if_neg a1, S.take_eq ht hq]
  have he : q.ready.erase (i : Int) = q.ready := List.erase_of_not_mem (hno a1)
  by_cases a2 : t.st = 2
  · rw [if_pos a2]
    simp only [hq]
    obtain ⟨q', hq', hr⟩ := h.allrun i t ht a2
    rw [hq] at hq'; cases hq'
    simp [Q.out, hr, he]
  · rw [if_neg a2]
    have hr : q.run ≠ i := fun e => by
      rcases h.run _ q hq with g | g
      · omega
      · have := (is_cpu g.1 (e ▸ is_of ht)).2
        omega
    have : q.out i = q := by simp [Q.out, hr, he]
    rw [this]
    simp only [S.setQ]
    rw [List.set_getElem?_self' hq]
theorem pri_eq {s : S} (h : s.Ok) {i : Nat} {t : T} (ht : s.thr[i]? = some t) (p : Int) : s.rPri i t p = if t.st = 1 then ((s.take i).setPri i p).put i false else s.setPri i p := by
  obtain ⟨q, hq, hc, hrd, hql⟩ := h.at ht
  unfold S.rPri
  by_cases a1 : t.st = 1
  · rw [if_pos a1, if_pos a1, take_deq h ht a1 hq]
    have hd := deq_facts s i
    have htd : (s.deq i).thr[i]? = some t := by rw [hd.2.1]; exact ht
    have hl := (List.getElem?_eq_some_iff.1 htd).1
    have e := S.setPri_eq htd p
    have ht2 : ((s.deq i).setPri i p).thr[i]? = some { t with pri := p } := by rw [e]; simp [hl]
    obtain ⟨q2, hq2⟩ : ∃ q2, ((s.deq i).setPri i p).cpus[t.cpu.toNat]? = some q2 := at_lt (by rw [e]; dsimp only; rw [hd.1]; exact (List.getElem?_eq_some_iff.1 hq).1)
    rw [put_enq _ i false _ q2 ht2 hq2]
    congr 1
    rw [S.setSt_eq ht2]
    have e2 : ({ t with pri := p, st := 1 } : T) = { t with pri := p } := by rw [← a1]
    simp only [e2]
    rw [List.set_getElem?_self' ht2]
  · rw [if_neg a1, if_neg a1]
theorem more_eq {s : S} (h : s.Ok) {p : Int} {c : Nat} {q : Q} (hq : s.cpus[c]? = some q) : (s.rMore p c).enq s.thr.length false = (s.more p c).put s.thr.length false := by
  have ht : (s.more p c).thr[s.thr.length]? = some ⟨p, c, 0⟩ := by simp [S.more]
  rw [put_enq _ _ false _ q ht (by simpa [S.more] using hq), S.setSt_eq ht]
  congr 1
  simp [S.more, S.rMore]
theorem fThr_cases (s : S) (n a b c : Int) : (s.valid = false ∧ s.fThr n a b c = 50) ∨ (s.valid = true ∧ (∀ t, s.th n = some t → ¬ (t.st = a ∨ t.st = b ∨ t.st = c)) ∧ s.fThr n a b c = 51) ∨ (s.valid = true ∧ ∃ (i : Nat) (t : T), n = i ∧ s.thr[i]? = some t ∧ (t.st = a ∨ t.st = b ∨ t.st = c) ∧ s.fThr n a b c = 0) := by
  unfold S.fThr
  by_cases hv : s.valid = true
  · right
    rw [if_pos hv]
    cases ht : s.th n with
    | none => exact .inl ⟨hv, by simp, rfl⟩
    | some t =>
      obtain ⟨i, rfl, hti⟩ := S.th_some ht
      simp only
      by_cases hs : t.st = a ∨ t.st = b ∨ t.st = c
      · exact .inr ⟨hv, i, t, rfl, hti, hs, by rw [if_pos hs]⟩
      · exact .inl ⟨hv, fun t' e => by cases e; exact hs, by rw [if_neg hs]⟩
  · exact .inl ⟨S.not_valid hv, by rw [if_neg hv]⟩
theorem fCpu_cases (s : S) (n : Int) : (s.valid = false ∧ s.fCpu n = 50) ∨ (s.valid = true ∧ s.cp n = none ∧ s.fCpu n = 52) ∨ (s.valid = true ∧ ∃ (c : Nat) (q : Q), n = c ∧ s.cpus[c]? = some q ∧ s.fCpu n = 0) := by
  unfold S.fCpu
  by_cases hv : s.valid = true
  · right
    rw [if_pos hv]
    cases hq : s.cp n with
    | none => exact .inl ⟨hv, rfl, rfl⟩
    | some q =>
      obtain ⟨c, rfl, hqc⟩ := S.cp_some hq
      exact .inr ⟨hv, c, q, rfl, hqc, rfl⟩
  · exact .inl ⟨S.not_valid hv, by rw [if_neg hv]⟩
theorem NewE_c (n q : Int) : ACalls Try.prog 31 [iv n, iv q] [] (fun o H => o = .ret (if okNew n q then outAV (S.new n.toNat q) 0 false 0 else outAV S.zero 0 false 1) ∧ H = []) := by
  refine ACalls.up ?_
  refine ACalls.intro (cs := []) (n := 24) Try.func31 rfl rfl rfl (by kernel_rfl) rfl ?_
  generalize hpost : (fun (o : Out) (H : Heap) => o = Out.ret (if okNew n q then outAV (S.new n.toNat q) 0 false 0 else outAV S.zero 0 false 1) ∧ H = []) = post
  have bad : ¬ okNew n q → ∀ H, Up 0 post (.ret (.agg [.view true 0 [], .view true 0 [], iv 0, iv 0, .bool false, iv 1])) H := fun h H => fin0 (by rw [← hpost, if_neg h]; exact ⟨rfl, rfl⟩) H
  simp only [go_sem, Nat.reduceAdd, Nat.reduceSub, Nat.reduceMul, Nat.reduceEqDiff, Nat.reduceLeDiff, Nat.reduceLT, ↓reduceIte, Int.reduceToNat, reduceCtorEq, Int.cast_ofNat_Int, Int.reduceLT, Int.reduceLE, Int.reduceGT, Int.reduceGE, Int.reduceEq, Int.reduceNe, Int.reduceNeg, Int.reduceAdd, Int.reduceSub, Int.le_refl]
  rcases Decidable.em (n < 1) with a1 | a1
  · simp only [go_sem, Nat.reduceAdd, Nat.reduceSub, Nat.reduceMul, Nat.reduceEqDiff, Nat.reduceLeDiff, Nat.reduceLT, ↓reduceIte, Int.reduceToNat, reduceCtorEq, Int.cast_ofNat_Int, Int.reduceLT, Int.reduceLE, Int.reduceGT, Int.reduceGE, Int.reduceEq, Int.reduceNe, Int.reduceNeg, Int.reduceAdd, Int.reduceSub, Int.le_refl, a1]
    exact bad (by unfold okNew; omega) _
  rcases Decidable.em (4 < n) with a2 | a2
  · simp only [go_sem, Nat.reduceAdd, Nat.reduceSub, Nat.reduceMul, Nat.reduceEqDiff, Nat.reduceLeDiff, Nat.reduceLT, ↓reduceIte, Int.reduceToNat, reduceCtorEq, Int.cast_ofNat_Int, Int.reduceLT, Int.reduceLE, Int.reduceGT, Int.reduceGE, Int.reduceEq, Int.reduceNe, Int.reduceNeg, Int.reduceAdd, Int.reduceSub, Int.le_refl, a1, a2]
    exact bad (by unfold okNew; omega) _
  rcases Decidable.em (q < 1) with a3 | a3
  · simp only [go_sem, Nat.reduceAdd, Nat.reduceSub, Nat.reduceMul, Nat.reduceEqDiff, Nat.reduceLeDiff, Nat.reduceLT, ↓reduceIte, Int.reduceToNat, reduceCtorEq, Int.cast_ofNat_Int, Int.reduceLT, Int.reduceLE, Int.reduceGT, Int.reduceGE, Int.reduceEq, Int.reduceNe, Int.reduceNeg, Int.reduceAdd, Int.reduceSub, Int.le_refl, a1, a2, a3]
    exact bad (by unfold okNew; omega) _
  rcases Decidable.em (20 < q) with a4 | a4
  · simp only [go_sem, Nat.reduceAdd, Nat.reduceSub, Nat.reduceMul, Nat.reduceEqDiff, Nat.reduceLeDiff, Nat.reduceLT, ↓reduceIte, Int.reduceToNat, reduceCtorEq, Int.cast_ofNat_Int, Int.reduceLT, Int.reduceLE, Int.reduceGT, Int.reduceGE, Int.reduceEq, Int.reduceNe, Int.reduceNeg, Int.reduceAdd, Int.reduceSub, Int.le_refl, a1, a2, a3, a4]
    exact bad (by unfold okNew; omega) _
  obtain ⟨m, rfl⟩ : ∃ m : Nat, n = m := ⟨n.toNat, by omega⟩
  simp only [go_sem, Nat.reduceAdd, Nat.reduceSub, Nat.reduceMul, Nat.reduceEqDiff, Nat.reduceLeDiff, Nat.reduceLT, ↓reduceIte, Int.reduceToNat, reduceCtorEq, Int.cast_ofNat_Int, Int.reduceLT, Int.reduceLE, Int.reduceGT, Int.reduceGE, Int.reduceEq, Int.reduceNe, Int.reduceNeg, Int.reduceAdd, Int.reduceSub, Int.le_refl, a1, a2, a3, a4]
  refine rK_use (enters_of Try.func72 rfl (by decide)) (ACalls.pure_use (NewR_c m (by omega) q) rfl rfl) ?_
  simp only [go_sem, Nat.reduceAdd, Nat.reduceSub, Nat.reduceMul, Nat.reduceEqDiff, Nat.reduceLeDiff, Nat.reduceLT, ↓reduceIte, Int.reduceToNat, reduceCtorEq, Int.cast_ofNat_Int, Int.reduceLT, Int.reduceLE, Int.reduceGT, Int.reduceGE, Int.reduceEq, Int.reduceNe, Int.reduceNeg, Int.reduceAdd, Int.reduceSub, Int.le_refl, S.av]
  exact fin1 (s := S.new m q) (by rw [← hpost, if_pos (by unfold okNew; omega)]; exact ⟨rfl, rfl⟩) _
theorem EndE_c (s : S) (n : Int) : ACalls Try.prog 25 [s.av, iv n] [] (fun o H => o = .ret (outAV (s.res (s.eEnd n) (51)).1 0 (false) (s.res (s.eEnd n) (51)).2) ∧ H = []) := by
  refine ACalls.up ?_
  refine ACalls.intro (cs := []) (n := 17) Try.func25 rfl rfl rfl (by kernel_rfl) rfl ?_
  generalize hpost : (fun (o : Out) (H : Heap) => o = Out.ret (outAV (s.res (s.eEnd n) (51)).1 0 (false) (s.res (s.eEnd n) (51)).2) ∧ H = []) = post
  simp only [go_sem, Nat.reduceAdd, Nat.reduceSub, Nat.reduceMul, Nat.reduceEqDiff, Nat.reduceLeDiff, Nat.reduceLT, ↓reduceIte, Int.reduceToNat, reduceCtorEq, Int.cast_ofNat_Int, Int.reduceLT, Int.reduceLE, Int.reduceGT, Int.reduceGE, Int.reduceEq, Int.reduceNe, Int.reduceNeg, Int.reduceAdd, Int.reduceSub, Int.le_refl, S.av]
  refine rK_use (enters_of Try.func64 rfl (by decide)) (ACalls.pure_use (ofThread_c s n 1 2 3) rfl rfl) ?_
  rcases fThr_cases s n 1 2 3 with ⟨hv, hf⟩ | ⟨hv, ht, hf⟩ | ⟨hv, i, t, rfl, ht, hst, hf⟩
  · rw [hf]
    simp only [go_sem, Nat.reduceAdd, Nat.reduceSub, Nat.reduceMul, Nat.reduceEqDiff, Nat.reduceLeDiff, Nat.reduceLT, ↓reduceIte, Int.reduceToNat, reduceCtorEq, Int.cast_ofNat_Int, Int.reduceLT, Int.reduceLE, Int.reduceGT, Int.reduceGE, Int.reduceEq, Int.reduceNe, Int.reduceNeg, Int.reduceAdd, Int.reduceSub, Int.le_refl]
    refine fin0 ?_ _
    rw [← hpost, S.res_bad hv]
    exact ⟨rfl, rfl⟩
  · have e : s.eEnd n = none := by
      unfold S.eEnd
      cases hh : s.th n with
      | none => rfl
      | some t => simp only; rw [if_neg (by have := ht t hh; simpa using this)]
    rw [hf]
    simp only [go_sem, Nat.reduceAdd, Nat.reduceSub, Nat.reduceMul, Nat.reduceEqDiff, Nat.reduceLeDiff, Nat.reduceLT, ↓reduceIte, Int.reduceToNat, reduceCtorEq, Int.cast_ofNat_Int, Int.reduceLT, Int.reduceLE, Int.reduceGT, Int.reduceGE, Int.reduceEq, Int.reduceNe, Int.reduceNeg, Int.reduceAdd, Int.reduceSub, Int.le_refl]
    refine fin0 ?_ _
    rw [← hpost, S.res_no hv e]
    exact ⟨rfl, rfl⟩
  · have hok := (valid_iff s).1 hv
    have e := eEnd_eq ht (by simpa using hst)
    rw [hf]
    simp only [go_sem, Nat.reduceAdd, Nat.reduceSub, Nat.reduceMul, Nat.reduceEqDiff, Nat.reduceLeDiff, Nat.reduceLT, ↓reduceIte, Int.reduceToNat, reduceCtorEq, Int.cast_ofNat_Int, Int.reduceLT, Int.reduceLE, Int.reduceGT, Int.reduceGE, Int.reduceEq, Int.reduceNe, Int.reduceNeg, Int.reduceAdd, Int.reduceSub, Int.le_refl]
    refine rK_use (enters_of Try.func65 rfl (by decide)) (ACalls.pure_use (EndR_c s hok i t ht) rfl rfl) ?_
    rw [leave_eq hok ht hst]
    simp only [go_sem, Nat.reduceAdd, Nat.reduceSub, Nat.reduceMul, Nat.reduceEqDiff, Nat.reduceLeDiff, Nat.reduceLT, ↓reduceIte, Int.reduceToNat, reduceCtorEq, Int.cast_ofNat_Int, Int.reduceLT, Int.reduceLE, Int.reduceGT, Int.reduceGE, Int.reduceEq, Int.reduceNe, Int.reduceNeg, Int.reduceAdd, Int.reduceSub, Int.le_refl, S.av]
    refine fin1 (s := (s.take i).setSt i 4) ?_ _
    rw [← hpost, S.res_ok hv e]
    exact ⟨rfl, rfl⟩
theorem BlockE_c (s : S) (n : Int) : ACalls Try.prog 26 [s.av, iv n] [] (fun o H => o = .ret (outAV (s.res (s.eBlock n) (51)).1 0 (false) (s.res (s.eBlock n) (51)).2) ∧ H = []) := by
  refine ACalls.up ?_
  refine ACalls.intro (cs := []) (n := 17) Try.func26 rfl rfl rfl (by kernel_rfl) rfl ?_
  generalize hpost : (fun (o : Out) (H : Heap) => o = Out.ret (outAV (s.res (s.eBlock n) (51)).1 0 (false) (s.res (s.eBlock n) (51)).2) ∧ H = []) = post
  simp only [go_sem, Nat.reduceAdd, Nat.reduceSub, Nat.reduceMul, Nat.reduceEqDiff, Nat.reduceLeDiff, Nat.reduceLT, ↓reduceIte, Int.reduceToNat, reduceCtorEq, Int.cast_ofNat_Int, Int.reduceLT, Int.reduceLE, Int.reduceGT, Int.reduceGE, Int.reduceEq, Int.reduceNe, Int.reduceNeg, Int.reduceAdd, Int.reduceSub, Int.le_refl, S.av]
  refine rK_use (enters_of Try.func64 rfl (by decide)) (ACalls.pure_use (ofThread_c s n 1 2 2) rfl rfl) ?_
  rcases fThr_cases s n 1 2 2 with ⟨hv, hf⟩ | ⟨hv, ht, hf⟩ | ⟨hv, i, t, rfl, ht, hst, hf⟩
  · rw [hf]
    simp only [go_sem, Nat.reduceAdd, Nat.reduceSub, Nat.reduceMul, Nat.reduceEqDiff, Nat.reduceLeDiff, Nat.reduceLT, ↓reduceIte, Int.reduceToNat, reduceCtorEq, Int.cast_ofNat_Int, Int.reduceLT, Int.reduceLE, Int.reduceGT, Int.reduceGE, Int.reduceEq, Int.reduceNe, Int.reduceNeg, Int.reduceAdd, Int.reduceSub, Int.le_refl]
    refine fin0 ?_ _
    rw [← hpost, S.res_bad hv]
    exact ⟨rfl, rfl⟩
  · have e : s.eBlock n = none := by
      unfold S.eBlock
      cases hh : s.th n with
      | none => rfl
      | some t => simp only; rw [if_neg (by have := ht t hh; simp; omega)]
    rw [hf]
    simp only [go_sem, Nat.reduceAdd, Nat.reduceSub, Nat.reduceMul, Nat.reduceEqDiff, Nat.reduceLeDiff, Nat.reduceLT, ↓reduceIte, Int.reduceToNat, reduceCtorEq, Int.cast_ofNat_Int, Int.reduceLT, Int.reduceLE, Int.reduceGT, Int.reduceGE, Int.reduceEq, Int.reduceNe, Int.reduceNeg, Int.reduceAdd, Int.reduceSub, Int.le_refl]
    refine fin0 ?_ _
    rw [← hpost, S.res_no hv e]
    exact ⟨rfl, rfl⟩
  · have hok := (valid_iff s).1 hv
    have e : s.eBlock i = some ((s.take i).setSt i 3) := by
      simp only [S.eBlock, th_nat, ht, Int.toNat_natCast]
      rw [if_pos (by simp; omega)]
    rw [hf]
    simp only [go_sem, Nat.reduceAdd, Nat.reduceSub, Nat.reduceMul, Nat.reduceEqDiff, Nat.reduceLeDiff, Nat.reduceLT, ↓reduceIte, Int.reduceToNat, reduceCtorEq, Int.cast_ofNat_Int, Int.reduceLT, Int.reduceLE, Int.reduceGT, Int.reduceGE, Int.reduceEq, Int.reduceNe, Int.reduceNeg, Int.reduceAdd, Int.reduceSub, Int.le_refl]
    refine rK_use (enters_of Try.func66 rfl (by decide)) (ACalls.pure_use (BlockR_c s hok i t ht) rfl rfl) ?_
    rw [leave_eq hok ht (by omega)]
    simp only [go_sem, Nat.reduceAdd, Nat.reduceSub, Nat.reduceMul, Nat.reduceEqDiff, Nat.reduceLeDiff, Nat.reduceLT, ↓reduceIte, Int.reduceToNat, reduceCtorEq, Int.cast_ofNat_Int, Int.reduceLT, Int.reduceLE, Int.reduceGT, Int.reduceGE, Int.reduceEq, Int.reduceNe, Int.reduceNeg, Int.reduceAdd, Int.reduceSub, Int.le_refl, S.av]
    refine fin1 (s := (s.take i).setSt i 3) ?_ _
    rw [← hpost, S.res_ok hv e]
    exact ⟨rfl, rfl⟩
end Go.Proofs.Ytljepmbikbdicaa

set_option maxRecDepth 100000
set_option linter.unusedVariables false
set_option linter.unusedSimpArgs false
namespace Go.Proofs.Ytljepmbikbdicaa
open Go.AM
theorem WakeE_c (s : S) (n : Int) : ACalls Try.prog 27 [s.av, iv n] [] (fun o H => o = .ret (outAV (s.res (s.eWake n) 51).1 0 (if s.valid = true then s.dWake n else false) (s.res (s.eWake n) 51).2) ∧ H = []) := by
  refine ACalls.up ?_
  refine ACalls.intro (cs := []) (n := 27) Try.func27 rfl rfl rfl (by kernel_rfl) rfl ?_
  generalize hpost : (fun (o : Out) (H : Heap) => o = Out.ret (outAV (s.res (s.eWake n) 51).1 0 (if s.valid = true then s.dWake n else false) (s.res (s.eWake n) 51).2) ∧ H = []) = post
  simp only [go_sem, Nat.reduceAdd, Nat.reduceSub, Nat.reduceMul, Nat.reduceEqDiff, Nat.reduceLeDiff, Nat.reduceLT, ↓reduceIte, Int.reduceToNat, reduceCtorEq, Int.cast_ofNat_Int, Int.reduceLT, Int.reduceLE, Int.reduceGT, Int.reduceGE, Int.reduceEq, Int.reduceNe, Int.reduceNeg, Int.reduceAdd, Int.reduceSub, Int.le_refl, S.av]
  refine rK_use (enters_of Try.func64 rfl (by decide)) (ACalls.pure_use (ofThread_c s n 3 3 3) rfl rfl) ?_
  rcases fThr_cases s n 3 3 3 with ⟨hv, hf⟩ | ⟨hv, ht, hf⟩ | ⟨hv, i, t, rfl, ht, hst, hf⟩
  · rw [hf]
    simp only [go_sem, Nat.reduceAdd, Nat.reduceSub, Nat.reduceMul, Nat.reduceEqDiff, Nat.reduceLeDiff, Nat.reduceLT, ↓reduceIte, Int.reduceToNat, reduceCtorEq, Int.cast_ofNat_Int, Int.reduceLT, Int.reduceLE, Int.reduceGT, Int.reduceGE, Int.reduceEq, Int.reduceNe, Int.reduceNeg, Int.reduceAdd, Int.reduceSub, Int.le_refl]
    refine fin0 ?_ _
    rw [← hpost, S.res_bad hv, if_neg (by simp [hv])]
    exact ⟨rfl, rfl⟩
  · have e : s.eWake n = none ∧ s.dWake n = false := by
      unfold S.eWake S.dWake
      cases hh : s.th n with
      | none => exact ⟨rfl, rfl⟩
      | some t => simp only; rw [if_neg (by have := ht t hh; simp; omega), if_neg (by have := ht t hh; simp; omega)]; exact ⟨rfl, rfl⟩
    rw [hf]
    simp only [go_sem, Nat.reduceAdd, Nat.reduceSub, Nat.reduceMul, Nat.reduceEqDiff, Nat.reduceLeDiff, Nat.reduceLT, ↓reduceIte, Int.reduceToNat, reduceCtorEq, Int.cast_ofNat_Int, Int.reduceLT, Int.reduceLE, Int.reduceGT, Int.reduceGE, Int.reduceEq, Int.reduceNe, Int.reduceNeg, Int.reduceAdd, Int.reduceSub, Int.le_refl]
    refine fin0 ?_ _
    rw [← hpost, S.res_no hv e.1, if_pos hv, e.2]
    exact ⟨rfl, rfl⟩
  · have hok := (valid_iff s).1 hv
    have hs3 : t.st = 3 := by omega
    have e := eWake_eq ht (by simp [hs3])
    obtain ⟨q, hq, hc, hrd, hql⟩ := hok.at ht
    have hpe := put_enq s i false t q ht hq
    have hwk := hok.wake ht hs3 false
    have hti : i < s.thr.length := (List.getElem?_eq_some_iff.1 ht).1
    have htp : (s.put i false).thr[i]? = some { t with st := 1 } := by rw [S.put_eq ht hq]; simp [hti]
    have hcp : t.cpu.toNat < (s.put i false).cpus.length := by rw [put_cpl]; exact (List.getElem?_eq_some_iff.1 hq).1
    obtain ⟨qp, hqp⟩ := at_lt hcp
    have hdu : (s.put i false).rDue t.cpu = s.dWake i := by
      have hd : s.dWake i = (s.put i false).due t.cpu.toNat := by
        simp only [S.dWake, th_nat, ht, Int.toNat_natCast]
        rw [if_pos (by simp [hs3])]
      obtain ⟨cn, hcn⟩ : ∃ cn : Nat, t.cpu = cn := ⟨t.cpu.toNat, by omega⟩
      rw [hcn, Int.toNat_natCast] at hqp
      rw [hd, S.rDue, if_pos ((valid_iff _).2 hwk), hcn, cp_nat, hqp]
      simp
    have hdc := DueR_c (s.put i false) t.cpu
    have hwc := WakeR_c s hok i t ht
    rw [← hpe] at hwc
    rw [hdu] at hdc
    rw [S.res_ok hv e, if_pos hv] at hpost
    rw [hf]
    generalize s.put i false = u at *
    have hiu : i < u.thr.length := (List.getElem?_eq_some_iff.1 htp).1
    have hiu2 : (i : Int) < u.thr.length := by omega
    simp only [go_sem, Nat.reduceAdd, Nat.reduceSub, Nat.reduceMul, Nat.reduceEqDiff, Nat.reduceLeDiff, Nat.reduceLT, ↓reduceIte, Int.reduceToNat, reduceCtorEq, Int.cast_ofNat_Int, Int.reduceLT, Int.reduceLE, Int.reduceGT, Int.reduceGE, Int.reduceEq, Int.reduceNe, Int.reduceNeg, Int.reduceAdd, Int.reduceSub, Int.le_refl]
    refine rK_use (enters_of Try.func67 rfl (by decide)) (ACalls.pure_use (hwc) rfl rfl) ?_
    simp only [go_sem, Nat.reduceAdd, Nat.reduceSub, Nat.reduceMul, Nat.reduceEqDiff, Nat.reduceLeDiff, Nat.reduceLT, ↓reduceIte, Int.reduceToNat, reduceCtorEq, Int.cast_ofNat_Int, Int.reduceLT, Int.reduceLE, Int.reduceGT, Int.reduceGE, Int.reduceEq, Int.reduceNe, Int.reduceNeg, Int.reduceAdd, Int.reduceSub, Int.le_refl, S.av]
    refine draw [.rd 0 1, .qu 0 0, .qu 0 0, .qu 0 0, .qu 0 0, .qu 0 0, .qu 0 0, .qu 0 0, .mn 0, .qu 1 1, .mn 1] (by kernel_rfl) (by kernel_rfl) ?_
    simp only [go_sem, Nat.reduceAdd, Nat.reduceSub, Nat.reduceMul, Nat.reduceEqDiff, Nat.reduceLeDiff, Nat.reduceLT, ↓reduceIte, Int.reduceToNat, reduceCtorEq, Int.cast_ofNat_Int, Int.reduceLT, Int.reduceLE, Int.reduceGT, Int.reduceGE, Int.reduceEq, Int.reduceNe, Int.reduceNeg, Int.reduceAdd, Int.reduceSub, Int.le_refl, List.length_map, List.getElem?_map, htp, hiu, hiu2, T.row, Int.natCast_nonneg]
    refine dM_call (enters_of Try.func32 rfl (by decide)) (ACalls.pure_use hdc rfl rfl) ?_
    simp only [go_sem, Nat.reduceAdd, Nat.reduceSub, Nat.reduceMul, Nat.reduceEqDiff, Nat.reduceLeDiff, Nat.reduceLT, ↓reduceIte, Int.reduceToNat, reduceCtorEq, Int.cast_ofNat_Int, Int.reduceLT, Int.reduceLE, Int.reduceGT, Int.reduceGE, Int.reduceEq, Int.reduceNe, Int.reduceNeg, Int.reduceAdd, Int.reduceSub, Int.le_refl]
    exact fin1 (s := u) (by rw [← hpost]; exact ⟨rfl, rfl⟩) _
theorem SetPriE_c (s : S) (n p : Int) : ACalls Try.prog 28 [s.av, iv n, iv p] [] (fun o H => o = .ret (outAV (s.res (s.eSetPri n p) (s.rSetPri n)).1 0 false (s.res (s.eSetPri n p) (s.rSetPri n)).2) ∧ H = []) := by
  refine ACalls.up ?_
  refine ACalls.intro (cs := []) (n := 27) Try.func28 rfl rfl rfl (by kernel_rfl) rfl ?_
  generalize hpost : (fun (o : Out) (H : Heap) => o = Out.ret (outAV (s.res (s.eSetPri n p) (s.rSetPri n)).1 0 false (s.res (s.eSetPri n p) (s.rSetPri n)).2) ∧ H = []) = post
  simp only [go_sem, Nat.reduceAdd, Nat.reduceSub, Nat.reduceMul, Nat.reduceEqDiff, Nat.reduceLeDiff, Nat.reduceLT, ↓reduceIte, Int.reduceToNat, reduceCtorEq, Int.cast_ofNat_Int, Int.reduceLT, Int.reduceLE, Int.reduceGT, Int.reduceGE, Int.reduceEq, Int.reduceNe, Int.reduceNeg, Int.reduceAdd, Int.reduceSub, Int.le_refl, S.av]
  refine rK_use (enters_of Try.func64 rfl (by decide)) (ACalls.pure_use (ofThread_c s n 1 2 3) rfl rfl) ?_
  rcases fThr_cases s n 1 2 3 with ⟨hv, hf⟩ | ⟨hv, ht, hf⟩ | ⟨hv, i, t, rfl, ht, hst, hf⟩
  · rw [hf]
    simp only [go_sem, Nat.reduceAdd, Nat.reduceSub, Nat.reduceMul, Nat.reduceEqDiff, Nat.reduceLeDiff, Nat.reduceLT, ↓reduceIte, Int.reduceToNat, reduceCtorEq, Int.cast_ofNat_Int, Int.reduceLT, Int.reduceLE, Int.reduceGT, Int.reduceGE, Int.reduceEq, Int.reduceNe, Int.reduceNeg, Int.reduceAdd, Int.reduceSub, Int.le_refl]
    refine fin0 ?_ _
    rw [← hpost, S.res_bad hv]
    exact ⟨rfl, rfl⟩
  · have e : s.eSetPri n p = none ∧ s.rSetPri n = 51 := by
      unfold S.eSetPri S.rSetPri
      cases hh : s.th n with
      | none => exact ⟨rfl, rfl⟩
      | some t => simp only; rw [if_neg (by have := ht t hh; simp; omega), if_neg (by have := ht t hh; simp; omega)]; exact ⟨rfl, rfl⟩
    rw [hf]
    simp only [go_sem, Nat.reduceAdd, Nat.reduceSub, Nat.reduceMul, Nat.reduceEqDiff, Nat.reduceLeDiff, Nat.reduceLT, ↓reduceIte, Int.reduceToNat, reduceCtorEq, Int.cast_ofNat_Int, Int.reduceLT, Int.reduceLE, Int.reduceGT, Int.reduceGE, Int.reduceEq, Int.reduceNe, Int.reduceNeg, Int.reduceAdd, Int.reduceSub, Int.le_refl]
    refine fin0 ?_ _
    rw [← hpost, S.res_no hv e.1, e.2]
    exact ⟨rfl, rfl⟩
  · have hok := (valid_iff s).1 hv
    have hs : t.st ∈ ([1, 2, 3] : List Int) := by simpa using hst
    have hr : s.rSetPri i = 1 := by
      simp only [S.rSetPri, th_nat, ht]
      rw [if_pos hs]
    have bad : ¬ (0 ≤ p ∧ p ≤ 7) → ∀ H, Up 0 post (.ret (.agg [.view true 0 [], .view true 0 [], iv 0, iv 0, .bool false, iv 1])) H := fun h H => fin0 (by
      have e : s.eSetPri i p = none := by
        simp only [S.eSetPri, th_nat, ht]
        rw [if_neg (fun g => h g.2)]
      rw [← hpost, S.res_no hv e, hr]; exact ⟨rfl, rfl⟩) H
    rw [hf]
    simp only [go_sem, Nat.reduceAdd, Nat.reduceSub, Nat.reduceMul, Nat.reduceEqDiff, Nat.reduceLeDiff, Nat.reduceLT, ↓reduceIte, Int.reduceToNat, reduceCtorEq, Int.cast_ofNat_Int, Int.reduceLT, Int.reduceLE, Int.reduceGT, Int.reduceGE, Int.reduceEq, Int.reduceNe, Int.reduceNeg, Int.reduceAdd, Int.reduceSub, Int.le_refl]
    rcases Decidable.em (p < 0) with a1 | a1
    · simp only [go_sem, Nat.reduceAdd, Nat.reduceSub, Nat.reduceMul, Nat.reduceEqDiff, Nat.reduceLeDiff, Nat.reduceLT, ↓reduceIte, Int.reduceToNat, reduceCtorEq, Int.cast_ofNat_Int, Int.reduceLT, Int.reduceLE, Int.reduceGT, Int.reduceGE, Int.reduceEq, Int.reduceNe, Int.reduceNeg, Int.reduceAdd, Int.reduceSub, Int.le_refl, a1]
      exact bad (by omega) _
    rcases Decidable.em (7 < p) with a2 | a2
    · simp only [go_sem, Nat.reduceAdd, Nat.reduceSub, Nat.reduceMul, Nat.reduceEqDiff, Nat.reduceLeDiff, Nat.reduceLT, ↓reduceIte, Int.reduceToNat, reduceCtorEq, Int.cast_ofNat_Int, Int.reduceLT, Int.reduceLE, Int.reduceGT, Int.reduceGE, Int.reduceEq, Int.reduceNe, Int.reduceNeg, Int.reduceAdd, Int.reduceSub, Int.le_refl, a1, a2]
      exact bad (by omega) _
    have hp : 0 ≤ p ∧ p ≤ 7 := by omega
    have e := eSetPri_eq ht hs hp
    have hc := SetPriR_c s hok i t ht p
    rw [pri_eq hok ht] at hc
    rw [S.res_ok hv e] at hpost
    generalize (if t.st = 1 then ((s.take i).setPri i p).put i false else s.setPri i p) = u at *
    simp only [go_sem, Nat.reduceAdd, Nat.reduceSub, Nat.reduceMul, Nat.reduceEqDiff, Nat.reduceLeDiff, Nat.reduceLT, ↓reduceIte, Int.reduceToNat, reduceCtorEq, Int.cast_ofNat_Int, Int.reduceLT, Int.reduceLE, Int.reduceGT, Int.reduceGE, Int.reduceEq, Int.reduceNe, Int.reduceNeg, Int.reduceAdd, Int.reduceSub, Int.le_refl, a1, a2]
    refine rK_use (enters_of Try.func68 rfl (by decide)) (ACalls.pure_use (hc) rfl rfl) ?_
    simp only [go_sem, Nat.reduceAdd, Nat.reduceSub, Nat.reduceMul, Nat.reduceEqDiff, Nat.reduceLeDiff, Nat.reduceLT, ↓reduceIte, Int.reduceToNat, reduceCtorEq, Int.cast_ofNat_Int, Int.reduceLT, Int.reduceLE, Int.reduceGT, Int.reduceGE, Int.reduceEq, Int.reduceNe, Int.reduceNeg, Int.reduceAdd, Int.reduceSub, Int.le_refl, S.av]
    exact fin1 (s := u) (by rw [← hpost]; exact ⟨rfl, rfl⟩) _
theorem AddE_c (s : S) (p n : Int) : ACalls Try.prog 24 [s.av, iv p, iv n] [] (fun o H => o = .ret (outAV (s.res (s.eAdd p n) (s.rAdd p n)).1 (s.nAdd p n) false (s.res (s.eAdd p n) (s.rAdd p n)).2) ∧ H = []) := by
  refine ACalls.up ?_
  refine ACalls.intro (cs := []) (n := 35) Try.func24 rfl rfl rfl (by kernel_rfl) rfl ?_
  generalize hpost : (fun (o : Out) (H : Heap) => o = Out.ret (outAV (s.res (s.eAdd p n) (s.rAdd p n)).1 (s.nAdd p n) false (s.res (s.eAdd p n) (s.rAdd p n)).2) ∧ H = []) = post
  simp only [go_sem, Nat.reduceAdd, Nat.reduceSub, Nat.reduceMul, Nat.reduceEqDiff, Nat.reduceLeDiff, Nat.reduceLT, ↓reduceIte, Int.reduceToNat, reduceCtorEq, Int.cast_ofNat_Int, Int.reduceLT, Int.reduceLE, Int.reduceGT, Int.reduceGE, Int.reduceEq, Int.reduceNe, Int.reduceNeg, Int.reduceAdd, Int.reduceSub, Int.le_refl, S.av]
  refine rK_use (enters_of Try.func62 rfl (by decide)) (ACalls.pure_use (ofCpu_c s n) rfl rfl) ?_
  rcases fCpu_cases s n with ⟨hv, hf⟩ | ⟨hv, hq, hf⟩ | ⟨hv, c, q, rfl, hq, hf⟩
  · rw [hf]
    simp only [go_sem, Nat.reduceAdd, Nat.reduceSub, Nat.reduceMul, Nat.reduceEqDiff, Nat.reduceLeDiff, Nat.reduceLT, ↓reduceIte, Int.reduceToNat, reduceCtorEq, Int.cast_ofNat_Int, Int.reduceLT, Int.reduceLE, Int.reduceGT, Int.reduceGE, Int.reduceEq, Int.reduceNe, Int.reduceNeg, Int.reduceAdd, Int.reduceSub, Int.le_refl]
    refine fin0 ?_ _
    rw [← hpost, S.res_bad hv, S.nAdd, if_neg (by simp [hv])]
    exact ⟨rfl, rfl⟩
  · have e : s.eAdd p n = none ∧ s.rAdd p n = 52 := by simp [S.eAdd, S.rAdd, hq]
    rw [hf]
    simp only [go_sem, Nat.reduceAdd, Nat.reduceSub, Nat.reduceMul, Nat.reduceEqDiff, Nat.reduceLeDiff, Nat.reduceLT, ↓reduceIte, Int.reduceToNat, reduceCtorEq, Int.cast_ofNat_Int, Int.reduceLT, Int.reduceLE, Int.reduceGT, Int.reduceGE, Int.reduceEq, Int.reduceNe, Int.reduceNeg, Int.reduceAdd, Int.reduceSub, Int.le_refl]
    refine fin0 ?_ _
    rw [← hpost, S.res_no hv e.1, e.2, S.nAdd, if_pos hv, e.1]
    exact ⟨rfl, rfl⟩
  have hok := (valid_iff s).1 hv
  have h16 := hok.t16
  have he : s.eAdd p c = if (0 ≤ p ∧ p ≤ 7) ∧ s.thr.length < 16 then some ((s.more p c).put s.thr.length false) else none := by simp only [S.eAdd, cp_nat, hq]
  have hr : s.rAdd p c = if 0 ≤ p ∧ p ≤ 7 then 2 else 1 := by simp only [S.rAdd, cp_nat, hq]
  have bad : ∀ k : Int, ¬ ((0 ≤ p ∧ p ≤ 7) ∧ s.thr.length < 16) → s.rAdd p c = k → ∀ H, Up 0 post (.ret (.agg [.view true 0 [], .view true 0 [], iv 0, iv 0, .bool false, iv k])) H := fun k h hk H => fin0 (by
    have e : s.eAdd p c = none := by rw [he, if_neg h]
    rw [← hpost, S.res_no hv e, hk, S.nAdd, if_pos hv, e]; exact ⟨rfl, rfl⟩) H
  rw [hf]
  simp only [go_sem, Nat.reduceAdd, Nat.reduceSub, Nat.reduceMul, Nat.reduceEqDiff, Nat.reduceLeDiff, Nat.reduceLT, ↓reduceIte, Int.reduceToNat, reduceCtorEq, Int.cast_ofNat_Int, Int.reduceLT, Int.reduceLE, Int.reduceGT, Int.reduceGE, Int.reduceEq, Int.reduceNe, Int.reduceNeg, Int.reduceAdd, Int.reduceSub, Int.le_refl]
  rcases Decidable.em (p < 0) with a1 | a1
  · simp only [go_sem, Nat.reduceAdd, Nat.reduceSub, Nat.reduceMul, Nat.reduceEqDiff, Nat.reduceLeDiff, Nat.reduceLT, ↓reduceIte, Int.reduceToNat, reduceCtorEq, Int.cast_ofNat_Int, Int.reduceLT, Int.reduceLE, Int.reduceGT, Int.reduceGE, Int.reduceEq, Int.reduceNe, Int.reduceNeg, Int.reduceAdd, Int.reduceSub, Int.le_refl, a1]
    exact bad 1 (by omega) (by rw [hr, if_neg (by omega)]) _
  rcases Decidable.em (7 < p) with a2 | a2
  · simp only [go_sem, Nat.reduceAdd, Nat.reduceSub, Nat.reduceMul, Nat.reduceEqDiff, Nat.reduceLeDiff, Nat.reduceLT, ↓reduceIte, Int.reduceToNat, reduceCtorEq, Int.cast_ofNat_Int, Int.reduceLT, Int.reduceLE, Int.reduceGT, Int.reduceGE, Int.reduceEq, Int.reduceNe, Int.reduceNeg, Int.reduceAdd, Int.reduceSub, Int.le_refl, a1, a2]
    exact bad 1 (by omega) (by rw [hr, if_neg (by omega)]) _
  rcases Decidable.em ((16 : Int) ≤ s.thr.length) with a3 | a3
  · simp only [go_sem, Nat.reduceAdd, Nat.reduceSub, Nat.reduceMul, Nat.reduceEqDiff, Nat.reduceLeDiff, Nat.reduceLT, ↓reduceIte, Int.reduceToNat, reduceCtorEq, Int.cast_ofNat_Int, Int.reduceLT, Int.reduceLE, Int.reduceGT, Int.reduceGE, Int.reduceEq, Int.reduceNe, Int.reduceNeg, Int.reduceAdd, Int.reduceSub, Int.le_refl, a1, a2, a3, List.length_map]
    exact bad 2 (by omega) (by rw [hr, if_pos (by omega)]) _
  have e : s.eAdd p c = some ((s.more p c).put s.thr.length false) := by rw [he, if_pos (by omega)]
  have hc := AddR_c s hok p c q hq
  rw [more_eq hok hq] at hc
  have hn : s.nAdd p c = s.thr.length := by rw [S.nAdd, if_pos hv, e]; rfl
  rw [S.res_ok hv e, hn] at hpost
  generalize (s.more p c).put s.thr.length false = u at *
  simp only [go_sem, Nat.reduceAdd, Nat.reduceSub, Nat.reduceMul, Nat.reduceEqDiff, Nat.reduceLeDiff, Nat.reduceLT, ↓reduceIte, Int.reduceToNat, reduceCtorEq, Int.cast_ofNat_Int, Int.reduceLT, Int.reduceLE, Int.reduceGT, Int.reduceGE, Int.reduceEq, Int.reduceNe, Int.reduceNeg, Int.reduceAdd, Int.reduceSub, Int.le_refl, a1, a2, a3, List.length_map]
  refine draw [.qu 0 0, .qu 0 0, .qu 0 0, .mn 0, .qu 0 1, .rd 0 1, .qu 0 1, .qu 1 1, .mn 1] (by kernel_rfl) (by kernel_rfl) ?_
  simp only [go_sem, Nat.reduceAdd, Nat.reduceSub, Nat.reduceMul, Nat.reduceEqDiff, Nat.reduceLeDiff, Nat.reduceLT, ↓reduceIte, Int.reduceToNat, reduceCtorEq, Int.cast_ofNat_Int, Int.reduceLT, Int.reduceLE, Int.reduceGT, Int.reduceGE, Int.reduceEq, Int.reduceNe, Int.reduceNeg, Int.reduceAdd, Int.reduceSub, Int.le_refl]
  refine dM_call (enters_of Try.func63 rfl (by decide)) (ACalls.pure_use hc rfl rfl) ?_
  simp only [go_sem, Nat.reduceAdd, Nat.reduceSub, Nat.reduceMul, Nat.reduceEqDiff, Nat.reduceLeDiff, Nat.reduceLT, ↓reduceIte, Int.reduceToNat, reduceCtorEq, Int.cast_ofNat_Int, Int.reduceLT, Int.reduceLE, Int.reduceGT, Int.reduceGE, Int.reduceEq, Int.reduceNe, Int.reduceNeg, Int.reduceAdd, Int.reduceSub, Int.le_refl, S.av, List.length_map]
  exact fin1 (s := u) (by rw [← hpost]; exact ⟨rfl, rfl⟩) _
theorem SwitchE_c (s : S) (n : Int) : ACalls Try.prog 37 [s.av, iv n] [] (fun o H => o = .ret (outAV (s.res ((s.cp n).map fun _ => s.sw n.toNat) 52).1 (if s.valid = true then if (s.cp n).isSome then (s.sw n.toNat).runOf n.toNat else 0 else 0) (false) (s.res ((s.cp n).map fun _ => s.sw n.toNat) 52).2) ∧ H = []) := by
  refine ACalls.up ?_
  refine ACalls.intro (cs := []) (n := 24) Try.func37 rfl rfl rfl (by kernel_rfl) rfl ?_
  generalize hpost : (fun (o : Out) (H : Heap) => o = Out.ret (outAV (s.res ((s.cp n).map fun _ => s.sw n.toNat) 52).1 (if s.valid = true then if (s.cp n).isSome then (s.sw n.toNat).runOf n.toNat else 0 else 0) (false) (s.res ((s.cp n).map fun _ => s.sw n.toNat) 52).2) ∧ H = []) = post
  simp only [go_sem, Nat.reduceAdd, Nat.reduceSub, Nat.reduceMul, Nat.reduceEqDiff, Nat.reduceLeDiff, Nat.reduceLT, ↓reduceIte, Int.reduceToNat, reduceCtorEq, Int.cast_ofNat_Int, Int.reduceLT, Int.reduceLE, Int.reduceGT, Int.reduceGE, Int.reduceEq, Int.reduceNe, Int.reduceNeg, Int.reduceAdd, Int.reduceSub, Int.le_refl, S.av]
  refine rK_use (enters_of Try.func62 rfl (by decide)) (ACalls.pure_use (ofCpu_c s n) rfl rfl) ?_
  rcases fCpu_cases s n with ⟨hv, hf⟩ | ⟨hv, hq, hf⟩ | ⟨hv, c, q, rfl, hq, hf⟩
  · rw [hf]
    simp only [go_sem, Nat.reduceAdd, Nat.reduceSub, Nat.reduceMul, Nat.reduceEqDiff, Nat.reduceLeDiff, Nat.reduceLT, ↓reduceIte, Int.reduceToNat, reduceCtorEq, Int.cast_ofNat_Int, Int.reduceLT, Int.reduceLE, Int.reduceGT, Int.reduceGE, Int.reduceEq, Int.reduceNe, Int.reduceNeg, Int.reduceAdd, Int.reduceSub, Int.le_refl]
    refine fin0 ?_ _
    rw [← hpost, S.res_bad hv, if_neg (by simp [hv])]
    exact ⟨rfl, rfl⟩
  · rw [hf]
    simp only [go_sem, Nat.reduceAdd, Nat.reduceSub, Nat.reduceMul, Nat.reduceEqDiff, Nat.reduceLeDiff, Nat.reduceLT, ↓reduceIte, Int.reduceToNat, reduceCtorEq, Int.cast_ofNat_Int, Int.reduceLT, Int.reduceLE, Int.reduceGT, Int.reduceGE, Int.reduceEq, Int.reduceNe, Int.reduceNeg, Int.reduceAdd, Int.reduceSub, Int.le_refl]
    refine fin0 ?_ _
    rw [← hpost, S.res_no hv (by rw [hq]; rfl), if_pos hv, hq]
    exact ⟨rfl, rfl⟩
  have hok := (valid_iff s).1 hv
  have hcp : s.cp c = some q := by rw [cp_nat, hq]
  have hcl : c < s.cpus.length := (List.getElem?_eq_some_iff.1 hq).1
  rw [hf]
  have hc := SwitchR_c s hok c q hq
  rw [S.res_ok (s' := s.sw c) hv (by rw [hcp]; simp), if_pos hv, hcp] at hpost
  simp only [Option.isSome_some, if_true, Int.toNat_natCast] at hpost
  generalize (s.sw c).runOf c = k at *
  generalize s.sw c = u at *
  simp only [go_sem, Nat.reduceAdd, Nat.reduceSub, Nat.reduceMul, Nat.reduceEqDiff, Nat.reduceLeDiff, Nat.reduceLT, ↓reduceIte, Int.reduceToNat, reduceCtorEq, Int.cast_ofNat_Int, Int.reduceLT, Int.reduceLE, Int.reduceGT, Int.reduceGE, Int.reduceEq, Int.reduceNe, Int.reduceNeg, Int.reduceAdd, Int.reduceSub, Int.le_refl]
  refine rK_use (enters_of Try.func80 rfl (by decide)) (ACalls.pure_use (hc) rfl rfl) ?_
  simp only [go_sem, Nat.reduceAdd, Nat.reduceSub, Nat.reduceMul, Nat.reduceEqDiff, Nat.reduceLeDiff, Nat.reduceLT, ↓reduceIte, Int.reduceToNat, reduceCtorEq, Int.cast_ofNat_Int, Int.reduceLT, Int.reduceLE, Int.reduceGT, Int.reduceGE, Int.reduceEq, Int.reduceNe, Int.reduceNeg, Int.reduceAdd, Int.reduceSub, Int.le_refl, S.av]
  exact fin1 (s := u) (by rw [← hpost]; exact ⟨rfl, rfl⟩) _
theorem StealE_c (s : S) (n : Int) : ACalls Try.prog 40 [s.av, iv n] [] (fun o H => o = .ret (outAV (s.res ((s.cp n).map fun _ => s.steal n.toNat) 52).1 (if s.valid = true then if (s.cp n).isSome then s.nSteal n.toNat else 0 else 0) (false) (s.res ((s.cp n).map fun _ => s.steal n.toNat) 52).2) ∧ H = []) := by
  refine ACalls.up ?_
  refine ACalls.intro (cs := []) (n := 24) Try.func40 rfl rfl rfl (by kernel_rfl) rfl ?_
  generalize hpost : (fun (o : Out) (H : Heap) => o = Out.ret (outAV (s.res ((s.cp n).map fun _ => s.steal n.toNat) 52).1 (if s.valid = true then if (s.cp n).isSome then s.nSteal n.toNat else 0 else 0) (false) (s.res ((s.cp n).map fun _ => s.steal n.toNat) 52).2) ∧ H = []) = post
  simp only [go_sem, Nat.reduceAdd, Nat.reduceSub, Nat.reduceMul, Nat.reduceEqDiff, Nat.reduceLeDiff, Nat.reduceLT, ↓reduceIte, Int.reduceToNat, reduceCtorEq, Int.cast_ofNat_Int, Int.reduceLT, Int.reduceLE, Int.reduceGT, Int.reduceGE, Int.reduceEq, Int.reduceNe, Int.reduceNeg, Int.reduceAdd, Int.reduceSub, Int.le_refl, S.av]
  refine rK_use (enters_of Try.func62 rfl (by decide)) (ACalls.pure_use (ofCpu_c s n) rfl rfl) ?_
  rcases fCpu_cases s n with ⟨hv, hf⟩ | ⟨hv, hq, hf⟩ | ⟨hv, c, q, rfl, hq, hf⟩
  · rw [hf]
    simp only [go_sem, Nat.reduceAdd, Nat.reduceSub, Nat.reduceMul, Nat.reduceEqDiff, Nat.reduceLeDiff, Nat.reduceLT, ↓reduceIte, Int.reduceToNat, reduceCtorEq, Int.cast_ofNat_Int, Int.reduceLT, Int.reduceLE, Int.reduceGT, Int.reduceGE, Int.reduceEq, Int.reduceNe, Int.reduceNeg, Int.reduceAdd, Int.reduceSub, Int.le_refl]
    refine fin0 ?_ _
    rw [← hpost, S.res_bad hv, if_neg (by simp [hv])]
    exact ⟨rfl, rfl⟩
  · rw [hf]
    simp only [go_sem, Nat.reduceAdd, Nat.reduceSub, Nat.reduceMul, Nat.reduceEqDiff, Nat.reduceLeDiff, Nat.reduceLT, ↓reduceIte, Int.reduceToNat, reduceCtorEq, Int.cast_ofNat_Int, Int.reduceLT, Int.reduceLE, Int.reduceGT, Int.reduceGE, Int.reduceEq, Int.reduceNe, Int.reduceNeg, Int.reduceAdd, Int.reduceSub, Int.le_refl]
    refine fin0 ?_ _
    rw [← hpost, S.res_no hv (by rw [hq]; rfl), if_pos hv, hq]
    exact ⟨rfl, rfl⟩
  have hok := (valid_iff s).1 hv
  have hcp : s.cp c = some q := by rw [cp_nat, hq]
  have hcl : c < s.cpus.length := (List.getElem?_eq_some_iff.1 hq).1
  rw [hf]
  have hc := StealR_c s hok c hcl
  rw [S.res_ok (s' := s.steal c) hv (by rw [hcp]; simp), if_pos hv, hcp] at hpost
  simp only [Option.isSome_some, if_true, Int.toNat_natCast] at hpost
  generalize s.nSteal c = k at *
  generalize s.steal c = u at *
  simp only [go_sem, Nat.reduceAdd, Nat.reduceSub, Nat.reduceMul, Nat.reduceEqDiff, Nat.reduceLeDiff, Nat.reduceLT, ↓reduceIte, Int.reduceToNat, reduceCtorEq, Int.cast_ofNat_Int, Int.reduceLT, Int.reduceLE, Int.reduceGT, Int.reduceGE, Int.reduceEq, Int.reduceNe, Int.reduceNeg, Int.reduceAdd, Int.reduceSub, Int.le_refl]
  refine rK_use (enters_of Try.func83 rfl (by decide)) (ACalls.pure_use (hc) rfl rfl) ?_
  simp only [go_sem, Nat.reduceAdd, Nat.reduceSub, Nat.reduceMul, Nat.reduceEqDiff, Nat.reduceLeDiff, Nat.reduceLT, ↓reduceIte, Int.reduceToNat, reduceCtorEq, Int.cast_ofNat_Int, Int.reduceLT, Int.reduceLE, Int.reduceGT, Int.reduceGE, Int.reduceEq, Int.reduceNe, Int.reduceNeg, Int.reduceAdd, Int.reduceSub, Int.le_refl, S.av]
  exact fin1 (s := u) (by rw [← hpost]; exact ⟨rfl, rfl⟩) _
theorem TickE_c (s : S) (n : Int) : ACalls Try.prog 38 [s.av, iv n] [] (fun o H => o = .ret (outAV (s.res ((s.cp n).map fun _ => s.tick n.toNat) 52).1 (0) (if s.valid = true then (s.cp n).isSome && (s.tick n.toNat).due n.toNat else false) (s.res ((s.cp n).map fun _ => s.tick n.toNat) 52).2) ∧ H = []) := by
  refine ACalls.up ?_
  refine ACalls.intro (cs := []) (n := 22) Try.func38 rfl rfl rfl (by kernel_rfl) rfl ?_
  generalize hpost : (fun (o : Out) (H : Heap) => o = Out.ret (outAV (s.res ((s.cp n).map fun _ => s.tick n.toNat) 52).1 (0) (if s.valid = true then (s.cp n).isSome && (s.tick n.toNat).due n.toNat else false) (s.res ((s.cp n).map fun _ => s.tick n.toNat) 52).2) ∧ H = []) = post
  simp only [go_sem, Nat.reduceAdd, Nat.reduceSub, Nat.reduceMul, Nat.reduceEqDiff, Nat.reduceLeDiff, Nat.reduceLT, ↓reduceIte, Int.reduceToNat, reduceCtorEq, Int.cast_ofNat_Int, Int.reduceLT, Int.reduceLE, Int.reduceGT, Int.reduceGE, Int.reduceEq, Int.reduceNe, Int.reduceNeg, Int.reduceAdd, Int.reduceSub, Int.le_refl, S.av]
  refine rK_use (enters_of Try.func62 rfl (by decide)) (ACalls.pure_use (ofCpu_c s n) rfl rfl) ?_
  rcases fCpu_cases s n with ⟨hv, hf⟩ | ⟨hv, hq, hf⟩ | ⟨hv, c, q, rfl, hq, hf⟩
  · rw [hf]
    simp only [go_sem, Nat.reduceAdd, Nat.reduceSub, Nat.reduceMul, Nat.reduceEqDiff, Nat.reduceLeDiff, Nat.reduceLT, ↓reduceIte, Int.reduceToNat, reduceCtorEq, Int.cast_ofNat_Int, Int.reduceLT, Int.reduceLE, Int.reduceGT, Int.reduceGE, Int.reduceEq, Int.reduceNe, Int.reduceNeg, Int.reduceAdd, Int.reduceSub, Int.le_refl]
    refine fin0 ?_ _
    rw [← hpost, S.res_bad hv, if_neg (by simp [hv])]
    exact ⟨rfl, rfl⟩
  · rw [hf]
    simp only [go_sem, Nat.reduceAdd, Nat.reduceSub, Nat.reduceMul, Nat.reduceEqDiff, Nat.reduceLeDiff, Nat.reduceLT, ↓reduceIte, Int.reduceToNat, reduceCtorEq, Int.cast_ofNat_Int, Int.reduceLT, Int.reduceLE, Int.reduceGT, Int.reduceGE, Int.reduceEq, Int.reduceNe, Int.reduceNeg, Int.reduceAdd, Int.reduceSub, Int.le_refl]
    refine fin0 ?_ _
    rw [← hpost, S.res_no hv (by rw [hq]; rfl), if_pos hv, hq]
    exact ⟨rfl, rfl⟩
  have hok := (valid_iff s).1 hv
  have hcp : s.cp c = some q := by rw [cp_nat, hq]
  have hcl : c < s.cpus.length := (List.getElem?_eq_some_iff.1 hq).1
  rw [hf]
  have hc := TickR_c s hok c q hq
  have ht : (if 0 < q.left then s.setQ c { q with left := q.left - 1 } else s) = s.tick c := by
    rw [S.tick_eq hq]
    have hl : 0 ≤ q.left := by rcases hok.run c q hq with g | g <;> omega
    by_cases h : 0 < q.left
    · rw [if_pos h, if_neg (by omega)]
    · have h0 : q.left = 0 := by omega
      rw [if_neg h, if_pos (by omega)]
      have e : ({ q with left := 0 } : Q) = q := by rw [← h0]
      simp only [S.setQ]
      rw [e, List.set_getElem?_self' hq]
  rw [ht] at hc
  have hok2 := hok.tick c
  have hdc := DueR_c (s.tick c) c
  have hl2 : c < (s.tick c).cpus.length := by rw [S.tick_eq hq, setQ_len]; exact hcl
  obtain ⟨q2, hq2⟩ := at_lt hl2
  rw [S.rDue, if_pos ((valid_iff _).2 hok2), cp_nat, hq2] at hdc
  rw [S.res_ok (s' := s.tick c) hv (by rw [hcp]; simp), if_pos hv, hcp] at hpost
  simp only [Option.isSome_some, Bool.true_and, Int.toNat_natCast] at hpost hdc
  generalize (s.tick c).due c = k at *
  generalize s.tick c = u at *
  simp only [go_sem, Nat.reduceAdd, Nat.reduceSub, Nat.reduceMul, Nat.reduceEqDiff, Nat.reduceLeDiff, Nat.reduceLT, ↓reduceIte, Int.reduceToNat, reduceCtorEq, Int.cast_ofNat_Int, Int.reduceLT, Int.reduceLE, Int.reduceGT, Int.reduceGE, Int.reduceEq, Int.reduceNe, Int.reduceNeg, Int.reduceAdd, Int.reduceSub, Int.le_refl]
  refine rK_use (enters_of Try.func81 rfl (by decide)) (ACalls.pure_use (hc) rfl rfl) ?_
  simp only [go_sem, Nat.reduceAdd, Nat.reduceSub, Nat.reduceMul, Nat.reduceEqDiff, Nat.reduceLeDiff, Nat.reduceLT, ↓reduceIte, Int.reduceToNat, reduceCtorEq, Int.cast_ofNat_Int, Int.reduceLT, Int.reduceLE, Int.reduceGT, Int.reduceGE, Int.reduceEq, Int.reduceNe, Int.reduceNeg, Int.reduceAdd, Int.reduceSub, Int.le_refl, S.av]
  refine draw [.rd 0 1, .qu 0 0, .qu 0 0, .mn 0, .qu 1 1, .mn 1] (by kernel_rfl) (by kernel_rfl) ?_
  simp only [go_sem, Nat.reduceAdd, Nat.reduceSub, Nat.reduceMul, Nat.reduceEqDiff, Nat.reduceLeDiff, Nat.reduceLT, ↓reduceIte, Int.reduceToNat, reduceCtorEq, Int.cast_ofNat_Int, Int.reduceLT, Int.reduceLE, Int.reduceGT, Int.reduceGE, Int.reduceEq, Int.reduceNe, Int.reduceNeg, Int.reduceAdd, Int.reduceSub, Int.le_refl]
  refine dM_call (enters_of Try.func32 rfl (by decide)) (ACalls.pure_use hdc rfl rfl) ?_
  simp only [go_sem, Nat.reduceAdd, Nat.reduceSub, Nat.reduceMul, Nat.reduceEqDiff, Nat.reduceLeDiff, Nat.reduceLT, ↓reduceIte, Int.reduceToNat, reduceCtorEq, Int.cast_ofNat_Int, Int.reduceLT, Int.reduceLE, Int.reduceGT, Int.reduceGE, Int.reduceEq, Int.reduceNe, Int.reduceNeg, Int.reduceAdd, Int.reduceSub, Int.le_refl]
  exact fin1 (s := u) (by rw [← hpost]; exact ⟨rfl, rfl⟩) _
theorem YieldE_c (s : S) (n : Int) : ACalls Try.prog 39 [s.av, iv n] [] (fun o H => o = .ret (outAV (s.res (s.eYield n) 52).1 (0) (false) (s.res (s.eYield n) 52).2) ∧ H = []) := by
  refine ACalls.up ?_
  refine ACalls.intro (cs := []) (n := 28) Try.func39 rfl rfl rfl (by kernel_rfl) rfl ?_
  generalize hpost : (fun (o : Out) (H : Heap) => o = Out.ret (outAV (s.res (s.eYield n) 52).1 (0) (false) (s.res (s.eYield n) 52).2) ∧ H = []) = post
  simp only [go_sem, Nat.reduceAdd, Nat.reduceSub, Nat.reduceMul, Nat.reduceEqDiff, Nat.reduceLeDiff, Nat.reduceLT, ↓reduceIte, Int.reduceToNat, reduceCtorEq, Int.cast_ofNat_Int, Int.reduceLT, Int.reduceLE, Int.reduceGT, Int.reduceGE, Int.reduceEq, Int.reduceNe, Int.reduceNeg, Int.reduceAdd, Int.reduceSub, Int.le_refl, S.av]
  refine rK_use (enters_of Try.func62 rfl (by decide)) (ACalls.pure_use (ofCpu_c s n) rfl rfl) ?_
  rcases fCpu_cases s n with ⟨hv, hf⟩ | ⟨hv, hq, hf⟩ | ⟨hv, c, q, rfl, hq, hf⟩
  · rw [hf]
    simp only [go_sem, Nat.reduceAdd, Nat.reduceSub, Nat.reduceMul, Nat.reduceEqDiff, Nat.reduceLeDiff, Nat.reduceLT, ↓reduceIte, Int.reduceToNat, reduceCtorEq, Int.cast_ofNat_Int, Int.reduceLT, Int.reduceLE, Int.reduceGT, Int.reduceGE, Int.reduceEq, Int.reduceNe, Int.reduceNeg, Int.reduceAdd, Int.reduceSub, Int.le_refl]
    refine fin0 ?_ _
    rw [← hpost, S.res_bad hv]
    exact ⟨rfl, rfl⟩
  · rw [hf]
    simp only [go_sem, Nat.reduceAdd, Nat.reduceSub, Nat.reduceMul, Nat.reduceEqDiff, Nat.reduceLeDiff, Nat.reduceLT, ↓reduceIte, Int.reduceToNat, reduceCtorEq, Int.cast_ofNat_Int, Int.reduceLT, Int.reduceLE, Int.reduceGT, Int.reduceGE, Int.reduceEq, Int.reduceNe, Int.reduceNeg, Int.reduceAdd, Int.reduceSub, Int.le_refl]
    refine fin0 ?_ _
    rw [← hpost, S.res_no hv (by simp only [S.eYield, hq])]
    exact ⟨rfl, rfl⟩
  have hok := (valid_iff s).1 hv
  have hcp : s.cp c = some q := by rw [cp_nat, hq]
  have hcl : c < s.cpus.length := (List.getElem?_eq_some_iff.1 hq).1
  rw [hf]
  have he : s.eYield c = if 0 ≤ q.run then some (s.setQ c { q with left := 0 }) else none := by simp only [S.eYield, hcp, Int.toNat_natCast]
  have hcl2 : (c : Int) < s.cpus.length := by omega
  simp only [go_sem, Nat.reduceAdd, Nat.reduceSub, Nat.reduceMul, Nat.reduceEqDiff, Nat.reduceLeDiff, Nat.reduceLT, ↓reduceIte, Int.reduceToNat, reduceCtorEq, Int.cast_ofNat_Int, Int.reduceLT, Int.reduceLE, Int.reduceGT, Int.reduceGE, Int.reduceEq, Int.reduceNe, Int.reduceNeg, Int.reduceAdd, Int.reduceSub, Int.le_refl, List.length_map, List.getElem?_map, hq, hcl, hcl2, Q.row, Int.natCast_nonneg]
  rcases Decidable.em (q.run = -1) with a1 | a1
  · rw [if_neg (by omega)] at he
    rw [S.res_no hv he] at hpost
    simp only [go_sem, Nat.reduceAdd, Nat.reduceSub, Nat.reduceMul, Nat.reduceEqDiff, Nat.reduceLeDiff, Nat.reduceLT, ↓reduceIte, Int.reduceToNat, reduceCtorEq, Int.cast_ofNat_Int, Int.reduceLT, Int.reduceLE, Int.reduceGT, Int.reduceGE, Int.reduceEq, Int.reduceNe, Int.reduceNeg, Int.reduceAdd, Int.reduceSub, Int.le_refl, a1]
    exact fin0 (by rw [← hpost]; exact ⟨rfl, rfl⟩) _
  · have h0 := (S.is_lt ((hok.run c q hq).resolve_left fun g => a1 g.1).1).1
    rw [if_pos h0] at he
    rw [S.res_ok hv he] at hpost
    have hc := YieldR_c s hok c q hq
    generalize s.setQ c { q with left := 0 } = u at *
    simp only [go_sem, Nat.reduceAdd, Nat.reduceSub, Nat.reduceMul, Nat.reduceEqDiff, Nat.reduceLeDiff, Nat.reduceLT, ↓reduceIte, Int.reduceToNat, reduceCtorEq, Int.cast_ofNat_Int, Int.reduceLT, Int.reduceLE, Int.reduceGT, Int.reduceGE, Int.reduceEq, Int.reduceNe, Int.reduceNeg, Int.reduceAdd, Int.reduceSub, Int.le_refl, a1]
    refine rK_use (enters_of Try.func82 rfl (by decide)) (ACalls.pure_use (hc) rfl rfl) ?_
    simp only [go_sem, Nat.reduceAdd, Nat.reduceSub, Nat.reduceMul, Nat.reduceEqDiff, Nat.reduceLeDiff, Nat.reduceLT, ↓reduceIte, Int.reduceToNat, reduceCtorEq, Int.cast_ofNat_Int, Int.reduceLT, Int.reduceLE, Int.reduceGT, Int.reduceGE, Int.reduceEq, Int.reduceNe, Int.reduceNeg, Int.reduceAdd, Int.reduceSub, Int.le_refl, S.av]
    exact fin1 (s := u) (by rw [← hpost]; exact ⟨rfl, rfl⟩) _
end Go.Proofs.Ytljepmbikbdicaa

set_option maxRecDepth 100000
set_option linter.unusedVariables false
set_option linter.unusedSimpArgs false
namespace Go.Proofs.Ytljepmbikbdicaa
open Go.AM
theorem same_t (s : S) (n : Int) (is : Bool) (e : Int) : ACalls Try.prog 23 [s.av, iv n, .bool is, iv e, outAV s n is e] [] (fun o H => o = .ret (.bool true) ∧ H = []) := by
  have h := same_c s s n n is is e e
  have : (decide (e = e) && decide (n = n) && (is == is) && s.same s) = true := by simp [(S.same_iff s s).2 rfl]
  rw [this] at h
  exact h
theorem threads_law (s : S) (n l0 l1 : Int) : ACalls Try.prog 6 [s.av, iv n, .agg [iv l0, iv l1]] [] (fun o H => o = .ret (.bool true) ∧ H = []) := by
  refine ACalls.up ?_
  refine ACalls.intro (cs := []) (n := 106) Try.func6 rfl rfl rfl (by kernel_rfl) rfl ?_
  have fin : ∀ b H, b = true → Up 0 (fun (o : Out) (H : Heap) => o = Out.ret (.bool true) ∧ H = []) (.ret (.bool b)) H := fun b H e => by subst e; exact up_bool ⟨rfl, rfl⟩
  generalize (fun (o : Out) (H : Heap) => o = Out.ret (.bool true) ∧ H = []) = post at fin ⊢
  have h1 := Add_c s l0 l1
  have g1 := AddE_c s l0 l1
  have h2 := End_c s n
  have g2 := EndE_c s n
  have h3 := Block_c s n
  have g3 := BlockE_c s n
  have h4 := Wake_c s n
  have g4 := WakeE_c s n
  have h5 := SetPri_c s n l0
  have g5 := SetPriE_c s n l0
  generalize s.res (s.eAdd l0 l1) (s.rAdd l0 l1) = r1 at h1 g1
  generalize s.nAdd l0 l1 = n1 at h1 g1
  generalize s.res (s.eEnd n) 51 = r2 at h2 g2
  generalize s.res (s.eBlock n) 51 = r3 at h3 g3
  generalize s.res (s.eWake n) 51 = r4 at h4 g4
  generalize (if s.valid = true then s.dWake n else false) = b4 at h4 g4
  generalize s.res (s.eSetPri n l0) (s.rSetPri n) = r5 at h5 g5
  obtain ⟨s1, e1⟩ := r1
  obtain ⟨s2, e2⟩ := r2
  obtain ⟨s3, e3⟩ := r3
  obtain ⟨s4, e4⟩ := r4
  obtain ⟨s5, e5⟩ := r5
  simp only [go_sem, Nat.reduceAdd, Nat.reduceSub, Nat.reduceMul, Nat.reduceEqDiff, Nat.reduceLeDiff, Nat.reduceLT, ↓reduceIte, Int.reduceToNat, reduceCtorEq, Int.cast_ofNat_Int, Int.reduceLT, Int.reduceLE, Int.reduceGT, Int.reduceGE, Int.reduceEq, Int.reduceNe, Int.reduceNeg, Int.reduceAdd, Int.reduceSub, Int.le_refl, S.av]
  refine rK_use (enters_of Try.func13 rfl (by decide)) (ACalls.pure_use (sane_c) rfl rfl) ?_
  simp only [go_sem, Nat.reduceAdd, Nat.reduceSub, Nat.reduceMul, Nat.reduceEqDiff, Nat.reduceLeDiff, Nat.reduceLT, ↓reduceIte, Int.reduceToNat, reduceCtorEq, Int.cast_ofNat_Int, Int.reduceLT, Int.reduceLE, Int.reduceGT, Int.reduceGE, Int.reduceEq, Int.reduceNe, Int.reduceNeg, Int.reduceAdd, Int.reduceSub, Int.le_refl]
  refine rK_use (enters_of Try.func18 rfl (by decide)) (ACalls.pure_use (h1) rfl rfl) ?_
  simp only [go_sem, Nat.reduceAdd, Nat.reduceSub, Nat.reduceMul, Nat.reduceEqDiff, Nat.reduceLeDiff, Nat.reduceLT, ↓reduceIte, Int.reduceToNat, reduceCtorEq, Int.cast_ofNat_Int, Int.reduceLT, Int.reduceLE, Int.reduceGT, Int.reduceGE, Int.reduceEq, Int.reduceNe, Int.reduceNeg, Int.reduceAdd, Int.reduceSub, Int.le_refl, S.av]
  refine rK_use (enters_of Try.func19 rfl (by decide)) (ACalls.pure_use (h2) rfl rfl) ?_
  simp only [go_sem, Nat.reduceAdd, Nat.reduceSub, Nat.reduceMul, Nat.reduceEqDiff, Nat.reduceLeDiff, Nat.reduceLT, ↓reduceIte, Int.reduceToNat, reduceCtorEq, Int.cast_ofNat_Int, Int.reduceLT, Int.reduceLE, Int.reduceGT, Int.reduceGE, Int.reduceEq, Int.reduceNe, Int.reduceNeg, Int.reduceAdd, Int.reduceSub, Int.le_refl, S.av]
  refine rK_use (enters_of Try.func20 rfl (by decide)) (ACalls.pure_use (h3) rfl rfl) ?_
  simp only [go_sem, Nat.reduceAdd, Nat.reduceSub, Nat.reduceMul, Nat.reduceEqDiff, Nat.reduceLeDiff, Nat.reduceLT, ↓reduceIte, Int.reduceToNat, reduceCtorEq, Int.cast_ofNat_Int, Int.reduceLT, Int.reduceLE, Int.reduceGT, Int.reduceGE, Int.reduceEq, Int.reduceNe, Int.reduceNeg, Int.reduceAdd, Int.reduceSub, Int.le_refl, S.av]
  refine rK_use (enters_of Try.func21 rfl (by decide)) (ACalls.pure_use (h4) rfl rfl) ?_
  simp only [go_sem, Nat.reduceAdd, Nat.reduceSub, Nat.reduceMul, Nat.reduceEqDiff, Nat.reduceLeDiff, Nat.reduceLT, ↓reduceIte, Int.reduceToNat, reduceCtorEq, Int.cast_ofNat_Int, Int.reduceLT, Int.reduceLE, Int.reduceGT, Int.reduceGE, Int.reduceEq, Int.reduceNe, Int.reduceNeg, Int.reduceAdd, Int.reduceSub, Int.le_refl, S.av]
  refine rK_use (enters_of Try.func22 rfl (by decide)) (ACalls.pure_use (h5) rfl rfl) ?_
  simp only [go_sem, Nat.reduceAdd, Nat.reduceSub, Nat.reduceMul, Nat.reduceEqDiff, Nat.reduceLeDiff, Nat.reduceLT, ↓reduceIte, Int.reduceToNat, reduceCtorEq, Int.cast_ofNat_Int, Int.reduceLT, Int.reduceLE, Int.reduceGT, Int.reduceGE, Int.reduceEq, Int.reduceNe, Int.reduceNeg, Int.reduceAdd, Int.reduceSub, Int.le_refl, S.av]
  refine draw [.qu 0 0, .qu 0 0, .rd 0 1, .qu 0 1, .qu 0 1, .qu 0 0, .qu 0 0, .qu 0 0, .qu 0 0, .qu 0 0, .mn 0, .mn 1, .qu 2 2, .qu 2 2, .rd 2 3, .qu 2 3, .qu 2 2, .qu 2 2, .mn 2, .mn 3, .qu 4 4, .qu 4 4, .rd 4 5, .qu 4 5, .qu 4 4, .qu 4 4, .mn 4, .mn 5, .qu 6 6, .qu 6 6, .rd 6 7, .qu 6 7, .qu 6 7, .qu 6 6, .qu 6 6, .mn 6, .mn 7, .qu 8 8, .qu 8 8, .rd 8 9, .qu 8 9, .qu 8 8, .qu 8 8, .qu 8 8, .qu 8 8, .mn 8, .mn 9, .qu 10 10, .qu 10 10] (by kernel_rfl) (by kernel_rfl) ?_
  simp only [go_sem, Nat.reduceAdd, Nat.reduceSub, Nat.reduceMul, Nat.reduceEqDiff, Nat.reduceLeDiff, Nat.reduceLT, ↓reduceIte, Int.reduceToNat, reduceCtorEq, Int.cast_ofNat_Int, Int.reduceLT, Int.reduceLE, Int.reduceGT, Int.reduceGE, Int.reduceEq, Int.reduceNe, Int.reduceNeg, Int.reduceAdd, Int.reduceSub, Int.le_refl]
  refine dM_call (enters_of Try.func24 rfl (by decide)) (ACalls.pure_use (g1) rfl rfl) ?_
  simp only [go_sem, Nat.reduceAdd, Nat.reduceSub, Nat.reduceMul, Nat.reduceEqDiff, Nat.reduceLeDiff, Nat.reduceLT, ↓reduceIte, Int.reduceToNat, reduceCtorEq, Int.cast_ofNat_Int, Int.reduceLT, Int.reduceLE, Int.reduceGT, Int.reduceGE, Int.reduceEq, Int.reduceNe, Int.reduceNeg, Int.reduceAdd, Int.reduceSub, Int.le_refl, outAV]
  refine dM_call (enters_of Try.func23 rfl (by decide)) (ACalls.pure_use (same_t s1 n1 false e1) rfl rfl) ?_
  simp only [go_sem, Nat.reduceAdd, Nat.reduceSub, Nat.reduceMul, Nat.reduceEqDiff, Nat.reduceLeDiff, Nat.reduceLT, ↓reduceIte, Int.reduceToNat, reduceCtorEq, Int.cast_ofNat_Int, Int.reduceLT, Int.reduceLE, Int.reduceGT, Int.reduceGE, Int.reduceEq, Int.reduceNe, Int.reduceNeg, Int.reduceAdd, Int.reduceSub, Int.le_refl, outAV]
  refine dM_call (enters_of Try.func25 rfl (by decide)) (ACalls.pure_use (g2) rfl rfl) ?_
  simp only [go_sem, Nat.reduceAdd, Nat.reduceSub, Nat.reduceMul, Nat.reduceEqDiff, Nat.reduceLeDiff, Nat.reduceLT, ↓reduceIte, Int.reduceToNat, reduceCtorEq, Int.cast_ofNat_Int, Int.reduceLT, Int.reduceLE, Int.reduceGT, Int.reduceGE, Int.reduceEq, Int.reduceNe, Int.reduceNeg, Int.reduceAdd, Int.reduceSub, Int.le_refl, outAV]
  refine dM_call (enters_of Try.func23 rfl (by decide)) (ACalls.pure_use (same_t s2 0 false e2) rfl rfl) ?_
  simp only [go_sem, Nat.reduceAdd, Nat.reduceSub, Nat.reduceMul, Nat.reduceEqDiff, Nat.reduceLeDiff, Nat.reduceLT, ↓reduceIte, Int.reduceToNat, reduceCtorEq, Int.cast_ofNat_Int, Int.reduceLT, Int.reduceLE, Int.reduceGT, Int.reduceGE, Int.reduceEq, Int.reduceNe, Int.reduceNeg, Int.reduceAdd, Int.reduceSub, Int.le_refl, outAV]
  refine dM_call (enters_of Try.func26 rfl (by decide)) (ACalls.pure_use (g3) rfl rfl) ?_
  simp only [go_sem, Nat.reduceAdd, Nat.reduceSub, Nat.reduceMul, Nat.reduceEqDiff, Nat.reduceLeDiff, Nat.reduceLT, ↓reduceIte, Int.reduceToNat, reduceCtorEq, Int.cast_ofNat_Int, Int.reduceLT, Int.reduceLE, Int.reduceGT, Int.reduceGE, Int.reduceEq, Int.reduceNe, Int.reduceNeg, Int.reduceAdd, Int.reduceSub, Int.le_refl, outAV]
  refine dM_call (enters_of Try.func23 rfl (by decide)) (ACalls.pure_use (same_t s3 0 false e3) rfl rfl) ?_
  simp only [go_sem, Nat.reduceAdd, Nat.reduceSub, Nat.reduceMul, Nat.reduceEqDiff, Nat.reduceLeDiff, Nat.reduceLT, ↓reduceIte, Int.reduceToNat, reduceCtorEq, Int.cast_ofNat_Int, Int.reduceLT, Int.reduceLE, Int.reduceGT, Int.reduceGE, Int.reduceEq, Int.reduceNe, Int.reduceNeg, Int.reduceAdd, Int.reduceSub, Int.le_refl, outAV]
  refine dM_call (enters_of Try.func27 rfl (by decide)) (ACalls.pure_use (g4) rfl rfl) ?_
  simp only [go_sem, Nat.reduceAdd, Nat.reduceSub, Nat.reduceMul, Nat.reduceEqDiff, Nat.reduceLeDiff, Nat.reduceLT, ↓reduceIte, Int.reduceToNat, reduceCtorEq, Int.cast_ofNat_Int, Int.reduceLT, Int.reduceLE, Int.reduceGT, Int.reduceGE, Int.reduceEq, Int.reduceNe, Int.reduceNeg, Int.reduceAdd, Int.reduceSub, Int.le_refl, outAV]
  refine dM_call (enters_of Try.func23 rfl (by decide)) (ACalls.pure_use (same_t s4 0 b4 e4) rfl rfl) ?_
  simp only [go_sem, Nat.reduceAdd, Nat.reduceSub, Nat.reduceMul, Nat.reduceEqDiff, Nat.reduceLeDiff, Nat.reduceLT, ↓reduceIte, Int.reduceToNat, reduceCtorEq, Int.cast_ofNat_Int, Int.reduceLT, Int.reduceLE, Int.reduceGT, Int.reduceGE, Int.reduceEq, Int.reduceNe, Int.reduceNeg, Int.reduceAdd, Int.reduceSub, Int.le_refl, outAV]
  refine dM_call (enters_of Try.func28 rfl (by decide)) (ACalls.pure_use (g5) rfl rfl) ?_
  simp only [go_sem, Nat.reduceAdd, Nat.reduceSub, Nat.reduceMul, Nat.reduceEqDiff, Nat.reduceLeDiff, Nat.reduceLT, ↓reduceIte, Int.reduceToNat, reduceCtorEq, Int.cast_ofNat_Int, Int.reduceLT, Int.reduceLE, Int.reduceGT, Int.reduceGE, Int.reduceEq, Int.reduceNe, Int.reduceNeg, Int.reduceAdd, Int.reduceSub, Int.le_refl, outAV]
  refine dM_call (enters_of Try.func23 rfl (by decide)) (ACalls.pure_use (same_t s5 0 false e5) rfl rfl) ?_
  simp only [go_sem, Nat.reduceAdd, Nat.reduceSub, Nat.reduceMul, Nat.reduceEqDiff, Nat.reduceLeDiff, Nat.reduceLT, ↓reduceIte, Int.reduceToNat, reduceCtorEq, Int.cast_ofNat_Int, Int.reduceLT, Int.reduceLE, Int.reduceGT, Int.reduceGE, Int.reduceEq, Int.reduceNe, Int.reduceNeg, Int.reduceAdd, Int.reduceSub, Int.le_refl, outAV]
  exact fin _ _ rfl
theorem switches_law (s : S) (n : Int) : ACalls Try.prog 8 [s.av, iv n] [] (fun o H => o = .ret (.bool true) ∧ H = []) := by
  refine ACalls.up ?_
  refine ACalls.intro (cs := []) (n := 81) Try.func8 rfl rfl rfl (by kernel_rfl) rfl ?_
  have fin : ∀ b H, b = true → Up 0 (fun (o : Out) (H : Heap) => o = Out.ret (.bool true) ∧ H = []) (.ret (.bool b)) H := fun b H e => by subst e; exact up_bool ⟨rfl, rfl⟩
  generalize (fun (o : Out) (H : Heap) => o = Out.ret (.bool true) ∧ H = []) = post at fin ⊢
  have h1 := Switch_c s n
  have g1 := SwitchE_c s n
  have h2 := Tick_c s n
  have g2 := TickE_c s n
  have h3 := Yield_c s n
  have g3 := YieldE_c s n
  have h4 := Steal_c s n
  have g4 := StealE_c s n
  generalize s.res ((s.cp n).map fun _ => s.sw n.toNat) 52 = r1 at h1 g1
  generalize (if s.valid = true then if (s.cp n).isSome then (s.sw n.toNat).runOf n.toNat else 0 else 0) = n1 at h1 g1
  generalize s.res ((s.cp n).map fun _ => s.tick n.toNat) 52 = r2 at h2 g2
  generalize (if s.valid = true then (s.cp n).isSome && (s.tick n.toNat).due n.toNat else false) = b2 at h2 g2
  generalize s.res (s.eYield n) 52 = r3 at h3 g3
  generalize s.res ((s.cp n).map fun _ => s.steal n.toNat) 52 = r4 at h4 g4
  generalize (if s.valid = true then if (s.cp n).isSome then s.nSteal n.toNat else 0 else 0) = n4 at h4 g4
  obtain ⟨s1, e1⟩ := r1
  obtain ⟨s2, e2⟩ := r2
  obtain ⟨s3, e3⟩ := r3
  obtain ⟨s4, e4⟩ := r4
  simp only [go_sem, Nat.reduceAdd, Nat.reduceSub, Nat.reduceMul, Nat.reduceEqDiff, Nat.reduceLeDiff, Nat.reduceLT, ↓reduceIte, Int.reduceToNat, reduceCtorEq, Int.cast_ofNat_Int, Int.reduceLT, Int.reduceLE, Int.reduceGT, Int.reduceGE, Int.reduceEq, Int.reduceNe, Int.reduceNeg, Int.reduceAdd, Int.reduceSub, Int.le_refl, S.av]
  refine rK_use (enters_of Try.func13 rfl (by decide)) (ACalls.pure_use (sane_c) rfl rfl) ?_
  simp only [go_sem, Nat.reduceAdd, Nat.reduceSub, Nat.reduceMul, Nat.reduceEqDiff, Nat.reduceLeDiff, Nat.reduceLT, ↓reduceIte, Int.reduceToNat, reduceCtorEq, Int.cast_ofNat_Int, Int.reduceLT, Int.reduceLE, Int.reduceGT, Int.reduceGE, Int.reduceEq, Int.reduceNe, Int.reduceNeg, Int.reduceAdd, Int.reduceSub, Int.le_refl]
  refine rK_use (enters_of Try.func14 rfl (by decide)) (ACalls.pure_use (h1) rfl rfl) ?_
  simp only [go_sem, Nat.reduceAdd, Nat.reduceSub, Nat.reduceMul, Nat.reduceEqDiff, Nat.reduceLeDiff, Nat.reduceLT, ↓reduceIte, Int.reduceToNat, reduceCtorEq, Int.cast_ofNat_Int, Int.reduceLT, Int.reduceLE, Int.reduceGT, Int.reduceGE, Int.reduceEq, Int.reduceNe, Int.reduceNeg, Int.reduceAdd, Int.reduceSub, Int.le_refl, S.av]
  refine rK_use (enters_of Try.func17 rfl (by decide)) (ACalls.pure_use (h2) rfl rfl) ?_
  simp only [go_sem, Nat.reduceAdd, Nat.reduceSub, Nat.reduceMul, Nat.reduceEqDiff, Nat.reduceLeDiff, Nat.reduceLT, ↓reduceIte, Int.reduceToNat, reduceCtorEq, Int.cast_ofNat_Int, Int.reduceLT, Int.reduceLE, Int.reduceGT, Int.reduceGE, Int.reduceEq, Int.reduceNe, Int.reduceNeg, Int.reduceAdd, Int.reduceSub, Int.le_refl, S.av]
  refine rK_use (enters_of Try.func35 rfl (by decide)) (ACalls.pure_use (h3) rfl rfl) ?_
  simp only [go_sem, Nat.reduceAdd, Nat.reduceSub, Nat.reduceMul, Nat.reduceEqDiff, Nat.reduceLeDiff, Nat.reduceLT, ↓reduceIte, Int.reduceToNat, reduceCtorEq, Int.cast_ofNat_Int, Int.reduceLT, Int.reduceLE, Int.reduceGT, Int.reduceGE, Int.reduceEq, Int.reduceNe, Int.reduceNeg, Int.reduceAdd, Int.reduceSub, Int.le_refl, S.av]
  refine rK_use (enters_of Try.func36 rfl (by decide)) (ACalls.pure_use (h4) rfl rfl) ?_
  simp only [go_sem, Nat.reduceAdd, Nat.reduceSub, Nat.reduceMul, Nat.reduceEqDiff, Nat.reduceLeDiff, Nat.reduceLT, ↓reduceIte, Int.reduceToNat, reduceCtorEq, Int.cast_ofNat_Int, Int.reduceLT, Int.reduceLE, Int.reduceGT, Int.reduceGE, Int.reduceEq, Int.reduceNe, Int.reduceNeg, Int.reduceAdd, Int.reduceSub, Int.le_refl, S.av]
  refine draw [.qu 0 0, .qu 0 0, .rd 0 1, .qu 0 1, .qu 0 1, .qu 0 0, .qu 0 0, .mn 0, .mn 1, .qu 2 2, .qu 2 2, .rd 2 3, .qu 2 3, .qu 2 3, .qu 2 2, .qu 2 2, .mn 2, .mn 3, .qu 4 4, .qu 4 4, .rd 4 5, .qu 4 5, .qu 4 4, .qu 4 4, .mn 4, .mn 5, .qu 6 6, .qu 6 6, .rd 6 7, .qu 6 7, .qu 6 7, .qu 6 6, .qu 6 6, .mn 6, .mn 7, .qu 8 8, .qu 8 8] (by kernel_rfl) (by kernel_rfl) ?_
  simp only [go_sem, Nat.reduceAdd, Nat.reduceSub, Nat.reduceMul, Nat.reduceEqDiff, Nat.reduceLeDiff, Nat.reduceLT, ↓reduceIte, Int.reduceToNat, reduceCtorEq, Int.cast_ofNat_Int, Int.reduceLT, Int.reduceLE, Int.reduceGT, Int.reduceGE, Int.reduceEq, Int.reduceNe, Int.reduceNeg, Int.reduceAdd, Int.reduceSub, Int.le_refl]
  refine dM_call (enters_of Try.func37 rfl (by decide)) (ACalls.pure_use (g1) rfl rfl) ?_
  simp only [go_sem, Nat.reduceAdd, Nat.reduceSub, Nat.reduceMul, Nat.reduceEqDiff, Nat.reduceLeDiff, Nat.reduceLT, ↓reduceIte, Int.reduceToNat, reduceCtorEq, Int.cast_ofNat_Int, Int.reduceLT, Int.reduceLE, Int.reduceGT, Int.reduceGE, Int.reduceEq, Int.reduceNe, Int.reduceNeg, Int.reduceAdd, Int.reduceSub, Int.le_refl, outAV]
  refine dM_call (enters_of Try.func23 rfl (by decide)) (ACalls.pure_use (same_t s1 n1 false e1) rfl rfl) ?_
  simp only [go_sem, Nat.reduceAdd, Nat.reduceSub, Nat.reduceMul, Nat.reduceEqDiff, Nat.reduceLeDiff, Nat.reduceLT, ↓reduceIte, Int.reduceToNat, reduceCtorEq, Int.cast_ofNat_Int, Int.reduceLT, Int.reduceLE, Int.reduceGT, Int.reduceGE, Int.reduceEq, Int.reduceNe, Int.reduceNeg, Int.reduceAdd, Int.reduceSub, Int.le_refl, outAV]
  refine dM_call (enters_of Try.func38 rfl (by decide)) (ACalls.pure_use (g2) rfl rfl) ?_
  simp only [go_sem, Nat.reduceAdd, Nat.reduceSub, Nat.reduceMul, Nat.reduceEqDiff, Nat.reduceLeDiff, Nat.reduceLT, ↓reduceIte, Int.reduceToNat, reduceCtorEq, Int.cast_ofNat_Int, Int.reduceLT, Int.reduceLE, Int.reduceGT, Int.reduceGE, Int.reduceEq, Int.reduceNe, Int.reduceNeg, Int.reduceAdd, Int.reduceSub, Int.le_refl, outAV]
  refine dM_call (enters_of Try.func23 rfl (by decide)) (ACalls.pure_use (same_t s2 0 b2 e2) rfl rfl) ?_
  simp only [go_sem, Nat.reduceAdd, Nat.reduceSub, Nat.reduceMul, Nat.reduceEqDiff, Nat.reduceLeDiff, Nat.reduceLT, ↓reduceIte, Int.reduceToNat, reduceCtorEq, Int.cast_ofNat_Int, Int.reduceLT, Int.reduceLE, Int.reduceGT, Int.reduceGE, Int.reduceEq, Int.reduceNe, Int.reduceNeg, Int.reduceAdd, Int.reduceSub, Int.le_refl, outAV]
  refine dM_call (enters_of Try.func39 rfl (by decide)) (ACalls.pure_use (g3) rfl rfl) ?_
  simp only [go_sem, Nat.reduceAdd, Nat.reduceSub, Nat.reduceMul, Nat.reduceEqDiff, Nat.reduceLeDiff, Nat.reduceLT, ↓reduceIte, Int.reduceToNat, reduceCtorEq, Int.cast_ofNat_Int, Int.reduceLT, Int.reduceLE, Int.reduceGT, Int.reduceGE, Int.reduceEq, Int.reduceNe, Int.reduceNeg, Int.reduceAdd, Int.reduceSub, Int.le_refl, outAV]
  refine dM_call (enters_of Try.func23 rfl (by decide)) (ACalls.pure_use (same_t s3 0 false e3) rfl rfl) ?_
  simp only [go_sem, Nat.reduceAdd, Nat.reduceSub, Nat.reduceMul, Nat.reduceEqDiff, Nat.reduceLeDiff, Nat.reduceLT, ↓reduceIte, Int.reduceToNat, reduceCtorEq, Int.cast_ofNat_Int, Int.reduceLT, Int.reduceLE, Int.reduceGT, Int.reduceGE, Int.reduceEq, Int.reduceNe, Int.reduceNeg, Int.reduceAdd, Int.reduceSub, Int.le_refl, outAV]
  refine dM_call (enters_of Try.func40 rfl (by decide)) (ACalls.pure_use (g4) rfl rfl) ?_
  simp only [go_sem, Nat.reduceAdd, Nat.reduceSub, Nat.reduceMul, Nat.reduceEqDiff, Nat.reduceLeDiff, Nat.reduceLT, ↓reduceIte, Int.reduceToNat, reduceCtorEq, Int.cast_ofNat_Int, Int.reduceLT, Int.reduceLE, Int.reduceGT, Int.reduceGE, Int.reduceEq, Int.reduceNe, Int.reduceNeg, Int.reduceAdd, Int.reduceSub, Int.le_refl, outAV]
  refine dM_call (enters_of Try.func23 rfl (by decide)) (ACalls.pure_use (same_t s4 n4 false e4) rfl rfl) ?_
  simp only [go_sem, Nat.reduceAdd, Nat.reduceSub, Nat.reduceMul, Nat.reduceEqDiff, Nat.reduceLeDiff, Nat.reduceLT, ↓reduceIte, Int.reduceToNat, reduceCtorEq, Int.cast_ofNat_Int, Int.reduceLT, Int.reduceLE, Int.reduceGT, Int.reduceGE, Int.reduceEq, Int.reduceNe, Int.reduceNeg, Int.reduceAdd, Int.reduceSub, Int.le_refl, outAV]
  exact fin _ _ rfl
theorem states_law (s o : S) (l0 l1 : Int) : ACalls Try.prog 7 [s.av, o.av, .agg [iv l0, iv l1]] [] (fun o H => o = .ret (.bool true) ∧ H = []) := by
  refine ACalls.up ?_
  refine ACalls.intro (cs := []) (n := 62) Try.func7 rfl rfl rfl (by kernel_rfl) rfl ?_
  have fin : ∀ b H, b = true → Up 0 (fun (o : Out) (H : Heap) => o = Out.ret (.bool true) ∧ H = []) (.ret (.bool b)) H := fun b H e => by subst e; exact up_bool ⟨rfl, rfl⟩
  generalize (fun (o : Out) (H : Heap) => o = Out.ret (.bool true) ∧ H = []) = post at fin ⊢
  obtain ⟨s1, e1, h1, g1⟩ : ∃ (s1 : S) (e1 : Int), ACalls Try.prog 29 [iv l0, iv l1] [] (fun o H => o = .ret (.tuple [s1.av, iv e1]) ∧ H = []) ∧ ACalls Try.prog 31 [iv l0, iv l1] [] (fun o H => o = .ret (outAV s1 0 false e1) ∧ H = []) := by
    have h := New_c l0 l1
    have g := NewE_c l0 l1
    by_cases hk : okNew l0 l1
    · rw [if_pos hk] at h g
      exact ⟨_, _, h, g⟩
    · rw [if_neg hk] at h g
      exact ⟨_, _, h, g⟩
  have h2 := Check_c s
  have g2 := Check_r s
  have h3 := Due_c s l0
  have g3 := DueR_c s l0
  have h4 := Same_c s o
  have g4 := Same_r s o
  have h5 := Same_c s s
  rw [(S.same_iff s s).2 rfl] at h5
  generalize (if s.valid = true then (0 : Int) else 50) = k2 at h2 g2
  generalize s.rDue l0 = b3 at h3 g3
  generalize s.same o = b4 at h4 g4
  simp only [go_sem, Nat.reduceAdd, Nat.reduceSub, Nat.reduceMul, Nat.reduceEqDiff, Nat.reduceLeDiff, Nat.reduceLT, ↓reduceIte, Int.reduceToNat, reduceCtorEq, Int.cast_ofNat_Int, Int.reduceLT, Int.reduceLE, Int.reduceGT, Int.reduceGE, Int.reduceEq, Int.reduceNe, Int.reduceNeg, Int.reduceAdd, Int.reduceSub, Int.le_refl, S.av]
  refine rK_use (enters_of Try.func13 rfl (by decide)) (ACalls.pure_use (sane_c) rfl rfl) ?_
  simp only [go_sem, Nat.reduceAdd, Nat.reduceSub, Nat.reduceMul, Nat.reduceEqDiff, Nat.reduceLeDiff, Nat.reduceLT, ↓reduceIte, Int.reduceToNat, reduceCtorEq, Int.cast_ofNat_Int, Int.reduceLT, Int.reduceLE, Int.reduceGT, Int.reduceGE, Int.reduceEq, Int.reduceNe, Int.reduceNeg, Int.reduceAdd, Int.reduceSub, Int.le_refl]
  refine rK_use (enters_of Try.func29 rfl (by decide)) (ACalls.pure_use (h1) rfl rfl) ?_
  simp only [go_sem, Nat.reduceAdd, Nat.reduceSub, Nat.reduceMul, Nat.reduceEqDiff, Nat.reduceLeDiff, Nat.reduceLT, ↓reduceIte, Int.reduceToNat, reduceCtorEq, Int.cast_ofNat_Int, Int.reduceLT, Int.reduceLE, Int.reduceGT, Int.reduceGE, Int.reduceEq, Int.reduceNe, Int.reduceNeg, Int.reduceAdd, Int.reduceSub, Int.le_refl, S.av]
  refine draw [.qu 0 0, .qu 0 0, .qu 0 0, .mn 0, .rd 0 1, .mn 1, .qu 2 2, .qu 2 2, .qu 2 2, .rd 2 3, .qu 2 3, .qu 2 2, .qu 2 2, .qu 2 2, .qu 2 2, .mn 2, .mn 3, .qu 4 4, .qu 4 4, .qu 4 4, .qu 4 4, .qu 4 4, .mn 4, .rd 4 5, .rd 4 5, .rd 4 5, .mn 5, .qu 6 6, .qu 6 6, .qu 6 6, .qu 6 6, .qu 6 6, .mn 6, .rd 6 7, .rd 6 7, .mn 7, .qu 8 8, .qu 8 8, .qu 8 8, .qu 8 8, .qu 8 8, .mn 8, .qu 9 9, .qu 9 9] (by kernel_rfl) (by kernel_rfl) ?_
  simp only [go_sem, Nat.reduceAdd, Nat.reduceSub, Nat.reduceMul, Nat.reduceEqDiff, Nat.reduceLeDiff, Nat.reduceLT, ↓reduceIte, Int.reduceToNat, reduceCtorEq, Int.cast_ofNat_Int, Int.reduceLT, Int.reduceLE, Int.reduceGT, Int.reduceGE, Int.reduceEq, Int.reduceNe, Int.reduceNeg, Int.reduceAdd, Int.reduceSub, Int.le_refl]
  refine dM_call (enters_of Try.func16 rfl (by decide)) (ACalls.pure_use (h2) rfl rfl) ?_
  simp only [go_sem, Nat.reduceAdd, Nat.reduceSub, Nat.reduceMul, Nat.reduceEqDiff, Nat.reduceLeDiff, Nat.reduceLT, ↓reduceIte, Int.reduceToNat, reduceCtorEq, Int.cast_ofNat_Int, Int.reduceLT, Int.reduceLE, Int.reduceGT, Int.reduceGE, Int.reduceEq, Int.reduceNe, Int.reduceNeg, Int.reduceAdd, Int.reduceSub, Int.le_refl, outAV, eq_self, beq_self_eq_true]
  refine dM_call (enters_of Try.func30 rfl (by decide)) (ACalls.pure_use (g2) rfl rfl) ?_
  simp only [go_sem, Nat.reduceAdd, Nat.reduceSub, Nat.reduceMul, Nat.reduceEqDiff, Nat.reduceLeDiff, Nat.reduceLT, ↓reduceIte, Int.reduceToNat, reduceCtorEq, Int.cast_ofNat_Int, Int.reduceLT, Int.reduceLE, Int.reduceGT, Int.reduceGE, Int.reduceEq, Int.reduceNe, Int.reduceNeg, Int.reduceAdd, Int.reduceSub, Int.le_refl, outAV, eq_self, beq_self_eq_true]
  refine dM_call (enters_of Try.func31 rfl (by decide)) (ACalls.pure_use (g1) rfl rfl) ?_
  simp only [go_sem, Nat.reduceAdd, Nat.reduceSub, Nat.reduceMul, Nat.reduceEqDiff, Nat.reduceLeDiff, Nat.reduceLT, ↓reduceIte, Int.reduceToNat, reduceCtorEq, Int.cast_ofNat_Int, Int.reduceLT, Int.reduceLE, Int.reduceGT, Int.reduceGE, Int.reduceEq, Int.reduceNe, Int.reduceNeg, Int.reduceAdd, Int.reduceSub, Int.le_refl, outAV, eq_self, beq_self_eq_true]
  refine dM_call (enters_of Try.func23 rfl (by decide)) (ACalls.pure_use (same_t s1 0 false e1) rfl rfl) ?_
  simp only [go_sem, Nat.reduceAdd, Nat.reduceSub, Nat.reduceMul, Nat.reduceEqDiff, Nat.reduceLeDiff, Nat.reduceLT, ↓reduceIte, Int.reduceToNat, reduceCtorEq, Int.cast_ofNat_Int, Int.reduceLT, Int.reduceLE, Int.reduceGT, Int.reduceGE, Int.reduceEq, Int.reduceNe, Int.reduceNeg, Int.reduceAdd, Int.reduceSub, Int.le_refl, outAV, eq_self, beq_self_eq_true]
  refine dM_call (enters_of Try.func15 rfl (by decide)) (ACalls.pure_use (h3) rfl rfl) ?_
  simp only [go_sem, Nat.reduceAdd, Nat.reduceSub, Nat.reduceMul, Nat.reduceEqDiff, Nat.reduceLeDiff, Nat.reduceLT, ↓reduceIte, Int.reduceToNat, reduceCtorEq, Int.cast_ofNat_Int, Int.reduceLT, Int.reduceLE, Int.reduceGT, Int.reduceGE, Int.reduceEq, Int.reduceNe, Int.reduceNeg, Int.reduceAdd, Int.reduceSub, Int.le_refl, outAV, eq_self, beq_self_eq_true]
  refine dM_call (enters_of Try.func32 rfl (by decide)) (ACalls.pure_use (g3) rfl rfl) ?_
  simp only [go_sem, Nat.reduceAdd, Nat.reduceSub, Nat.reduceMul, Nat.reduceEqDiff, Nat.reduceLeDiff, Nat.reduceLT, ↓reduceIte, Int.reduceToNat, reduceCtorEq, Int.cast_ofNat_Int, Int.reduceLT, Int.reduceLE, Int.reduceGT, Int.reduceGE, Int.reduceEq, Int.reduceNe, Int.reduceNeg, Int.reduceAdd, Int.reduceSub, Int.le_refl, outAV, eq_self, beq_self_eq_true]
  refine dM_call (enters_of Try.func33 rfl (by decide)) (ACalls.pure_use (h4) rfl rfl) ?_
  simp only [go_sem, Nat.reduceAdd, Nat.reduceSub, Nat.reduceMul, Nat.reduceEqDiff, Nat.reduceLeDiff, Nat.reduceLT, ↓reduceIte, Int.reduceToNat, reduceCtorEq, Int.cast_ofNat_Int, Int.reduceLT, Int.reduceLE, Int.reduceGT, Int.reduceGE, Int.reduceEq, Int.reduceNe, Int.reduceNeg, Int.reduceAdd, Int.reduceSub, Int.le_refl, outAV, eq_self, beq_self_eq_true]
  refine dM_call (enters_of Try.func34 rfl (by decide)) (ACalls.pure_use (g4) rfl rfl) ?_
  simp only [go_sem, Nat.reduceAdd, Nat.reduceSub, Nat.reduceMul, Nat.reduceEqDiff, Nat.reduceLeDiff, Nat.reduceLT, ↓reduceIte, Int.reduceToNat, reduceCtorEq, Int.cast_ofNat_Int, Int.reduceLT, Int.reduceLE, Int.reduceGT, Int.reduceGE, Int.reduceEq, Int.reduceNe, Int.reduceNeg, Int.reduceAdd, Int.reduceSub, Int.le_refl, outAV, eq_self, beq_self_eq_true]
  refine dM_call (enters_of Try.func33 rfl (by decide)) (ACalls.pure_use (h5) rfl rfl) ?_
  simp only [go_sem, Nat.reduceAdd, Nat.reduceSub, Nat.reduceMul, Nat.reduceEqDiff, Nat.reduceLeDiff, Nat.reduceLT, ↓reduceIte, Int.reduceToNat, reduceCtorEq, Int.cast_ofNat_Int, Int.reduceLT, Int.reduceLE, Int.reduceGT, Int.reduceGE, Int.reduceEq, Int.reduceNe, Int.reduceNeg, Int.reduceAdd, Int.reduceSub, Int.le_refl, outAV, eq_self, beq_self_eq_true]
  exact fin _ _ rfl
end Go.Proofs.Ytljepmbikbdicaa

set_option maxRecDepth 100000
set_option linter.unusedVariables false
set_option linter.unusedSimpArgs false
namespace Go.Proofs.Ytljepmbikbdicaa
open Go.AM
open Go.ChangeShapes Go.WideShapes Go.ChangeAt Go.RowKit
/-- An array that reads. -/
theorem read_arr {H : Type} {enc : TypeId × Value → H} {P : Program} {w : World} {t e : TypeId} {k : Nat} {v : Value} {d : DataW H} {p : List MemPlace} {base : Nat} (m : Nat) (ht : P.underlying t = some (.array k e)) (hp : plainB P m t = true)
    (hv : Value.okWide P w .any base t v) (h : DataW.Trod enc P w 0 (fun _ => true) true t v d p) : ∃ xs, VR (snapAll w) noEnv (.agg xs) v ∧ Sh P t xs := by
  unfold Value.okWide at hv
  rw [ht] at hv
  obtain ⟨cs, rfl, _⟩ := hv
  obtain ⟨n, hn⟩ := h
  obtain ⟨xs, h1, h2⟩ := read_trod m t hp n _ _ hn
  have hlen : xs.length = cs.size := by rw [h1.1]; simp [Value.cells]
  refine ⟨xs, .agg _ _ _ hlen.symm fun k x y hx hy => ?_, h2⟩
  exact (h1.2 k x y hx (by simpa [Value.cells] using hy)).1
theorem read_two {H : Type} {enc : TypeId × Value → H} {w : World} {v : Value} {d : DataW H} {p : List MemPlace} {base : Nat} (hv : Value.okWide Try.prog w .any base 40 v)
    (h : DataW.Trod enc Try.prog w 0 (fun _ => true) true 40 v d p) : ∃ a : Int × Int, VR (snapAll w) noEnv (.agg [iv a.1, iv a.2]) v := by
  obtain ⟨xs, h1, h2⟩ := read_arr 5 Try.underlying40 (by kernel_rfl) hv h
  obtain ⟨xss, rfl, hn, hp⟩ := h2.array_inv Try.underlying40
  obtain ⟨a, b, rfl⟩ : ∃ a b, xss = [a, b] := by
    match xss, hn with
    | [a, b], _ => exact ⟨a, b, rfl⟩
  obtain ⟨x, rfl, _⟩ := (hp a (by simp)).int_inv Try.underlying3
  obtain ⟨y, rfl, _⟩ := (hp b (by simp)).int_inv Try.underlying3
  exact ⟨(x, y), h1⟩
theorem rd_two : Try.prog.readableRec 40 = true ∧ 40 < Try.prog.types.size := ⟨by kernel_rfl, of_decide_eq_true (by kernel_rfl)⟩
end Go.Proofs.Ytljepmbikbdicaa
