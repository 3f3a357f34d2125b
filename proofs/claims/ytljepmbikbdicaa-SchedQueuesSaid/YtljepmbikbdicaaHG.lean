/- Sched: Wake behind Block, End behind Block, SetPri to the same priority. No condition. -/
import Derived.Test.YtljepmbikbdicaaSD
import Derived.Test.YtljepmbikbdicaaSE
set_option maxRecDepth 100000
set_option linter.unusedVariables false
set_option linter.unusedSimpArgs false
namespace Go.Proofs.Ytljepmbikbdicaa
open Go.AM
theorem ins_at (p : Int → Bool) (a b : List Int) (x : Int) (ha : ∀ y ∈ a, p y = false) (hb : ∀ y m, b = y :: m → p y = true) : ins (a ++ b) (idxF p (a ++ b) 0) x = a ++ x :: b := by
  have key : ∀ (a : List Int) (i : Int), (∀ y ∈ a, p y = false) → idxF p (a ++ b) i = if b = [] then -1 else i + a.length := by
    intro a
    induction a with
    | nil =>
      intro i _
      cases b with
      | nil => simp [idxF]
      | cons y m => simp [idxF, hb y m rfl]
    | cons z a ih =>
      intro i h
      simp only [List.cons_append, idxF, h z (by simp), Bool.false_eq_true, if_false, ih (i + 1) (fun y hy => h y (by simp [hy])), List.length_cons]
      split <;> omega
  rw [key a 0 ha]
  by_cases h : b = []
  · rw [if_pos h, h]; simp [ins]
  · rw [if_neg h, ins, if_neg (by omega), show ((0 : Int) + a.length).toNat = a.length by omega]
    simp
theorem modT_modT (s : S) (i : Nat) (t t' : T) : (s.modT i t).modT i t' = s.modT i t' := by simp [S.modT]
/-- A thread that is nowhere is not taken from anywhere. -/
theorem S.Ok.take_none {s : S} (h : s.Ok) {i : Nat} {t : T} (ht : s.thr[i]? = some t) (hst : t.st ≠ 1 ∧ t.st ≠ 2) : s.take i = s := by
  obtain ⟨q, hq, _⟩ := h.at ht
  have hB := h.okB ht hst
  rw [S.take_eq ht hq]
  have h1 : q.run ≠ i := by
    rcases hB.run _ q hq with h | h
    · omega
    · exact h.1
  have h2 : (i : Int) ∉ q.ready := fun hm => ((hB.rdy _ q hq).1 i hm).1 rfl
  have : q.out i = q := by simp [Q.out, h1, List.erase_of_not_mem h2]
  rw [this, S.setQ, List.set_getElem?_self' hq]
theorem S.Ok.queues {s : S} (h : s.Ok) {i : Nat} {t : T} (ht : s.thr[i]? = some t) (hst : t.st = 1 ∨ t.st = 2) :
    ∃ (b w : S), b = (s.take i).setSt i 3 ∧ b.Ok ∧ b.thr[i]? = some { t with st := 3 } ∧ w = b.put i false ∧ w.Ok ∧ (b.take i).setSt i 4 = (s.take i).setSt i 4 ∧ w.thr[i]? = some { t with st := 1 } ∧
      (∃ q l m, w.cpus[t.cpu.toNat]? = some q ∧ q.ready = l ++ (i : Int) :: m ∧ (i : Int) ∉ l ∧ (i : Int) ∉ m ∧ (∀ y ∈ l, t.pri ≤ w.pri y) ∧ (∀ y ∈ m, w.pri y < t.pri)) ∧ ((w.take i).setPri i t.pri).put i false = w := by
  have hil : i < s.thr.length := (List.getElem?_eq_some_iff.1 ht).1
  have ht2 := take_get ht
  have hbd := h.bd ht
  have hbok := h.leave ht (st := 3) (.inl rfl)
  have hbm : (s.take i).setSt i 3 = (s.take i).modT i { t with st := 3 } := setSt_modT ht2 3
  have htb : ((s.take i).setSt i 3).thr[i]? = some { t with st := 3 } := by rw [hbm]; exact modT_get ht2
  generalize hb : (s.take i).setSt i 3 = b at hbok hbm htb
  have hwok := hbok.wake htb rfl false
  refine ⟨b, b.put i false, rfl, hbok, htb, rfl, hwok, ?_, ?_, ?_, ?_⟩
  · rw [hbok.take_none htb ⟨by simp, by simp⟩, setSt_modT htb, setSt_modT ht2, hbm, modT_modT]
  all_goals
    obtain ⟨q, hq, hc0, _⟩ := hbok.at htb
    simp only at hq hc0
    have hlc : t.cpu.toNat < b.cpus.length := (List.getElem?_eq_some_iff.1 hq).1
    obtain ⟨l, m, hlm, hins, hl, hm⟩ := ins_idxF (b.below t.pri false) q.ready i
    have hB := hbok.okB htb ⟨by simp, by simp⟩
    have hput : b.put i false = (b.modT i { t with st := 1 }).setQ t.cpu.toNat { q with ready := l ++ (i : Int) :: m } := by
      rw [S.put_eq htb hq]
      simp only [hins]
      rfl
    have htw : (b.put i false).thr[i]? = some { t with st := 1 } := by rw [hput]; exact modT_get htb
    have hqw : (b.put i false).cpus[t.cpu.toNat]? = some { q with ready := l ++ (i : Int) :: m } := by rw [hput]; exact setQ_self hlc
    have hno : (i : Int) ∉ q.ready := fun hx => ((hB.rdy _ q hq).1 i hx).1 rfl
    have hnl : (i : Int) ∉ l := fun hx => hno (by rw [hlm]; simp [hx])
    have hnm : (i : Int) ∉ m := fun hx => hno (by rw [hlm]; simp [hx])
    have hprw : ∀ y, (b.put i false).pri y = b.pri y := fun y => by
      rw [hput, setQ_pri]
      have : b.modT i { t with st := 1 } = b.modT i { ({ t with st := 3 } : T) with st := 1 } := rfl
      rw [this, modSt_pri htb]
    have hmp : ∀ y ∈ m, b.pri y < t.pri := fun y hy => by
      cases m with
      | nil => cases hy
      | cons z m =>
        have h0 := hm z m rfl
        simp [S.below] at h0
        have hs := (hbok.rdy _ q hq).2.2
        rw [hlm, List.pairwise_append] at hs
        rcases List.mem_cons.1 hy with rfl | hy
        · exact h0
        · have := (List.pairwise_cons.1 hs.2.1).1 y hy
          omega
    have hlp : ∀ y ∈ l, t.pri ≤ b.pri y := fun y hy => by
      have := hl y hy
      simp [S.below] at this
      exact this
  · exact htw
  · exact ⟨_, l, m, hqw, rfl, hnl, hnm, fun y hy => by rw [hprw]; exact hlp y hy, fun y hy => by rw [hprw]; exact hmp y hy⟩
  · -- to the same priority
    have hrun : q.run ≠ i := by
      rcases hB.run _ q hq with h | h
      · omega
      · exact h.1
    have herase : (l ++ (i : Int) :: m).erase i = l ++ m := by
      rw [List.erase_append_right _ hnl]
      simp
    have htk : (b.put i false).take i = (b.modT i { t with st := 1 }).setQ t.cpu.toNat { q with ready := l ++ m } := by
      rw [S.take_eq htw hqw]
      have : Q.out { q with ready := l ++ (i : Int) :: m } i = { q with ready := l ++ m } := by simp [Q.out, hrun, herase]
      rw [this, hput, setQ_setQ]
    have ht3 : ((b.put i false).take i).thr[i]? = some { t with st := 1 } := take_get htw
    have hsp : ((b.put i false).take i).setPri i t.pri = (b.put i false).take i := by
      rw [setPri_modT ht3, S.modT, List.set_getElem?_self' ht3]
    rw [hsp]
    have hq3 : ((b.put i false).take i).cpus[t.cpu.toNat]? = some { q with ready := l ++ m } := by rw [htk]; exact setQ_self hlc
    rw [S.put_eq ht3 hq3]
    have hbel : ((b.put i false).take i).below t.pri false = b.below t.pri false := by
      funext y
      simp only [S.below]
      have : ((b.put i false).take i).pri y = b.pri y := by
        rw [htk, setQ_pri]
        have : b.modT i { t with st := 1 } = b.modT i { ({ t with st := 3 } : T) with st := 1 } := rfl
        rw [this, modSt_pri htb]
      rw [this]
    simp only [hbel]
    rw [ins_at _ l m i hl hm, htk, hput]
    simp only [S.setQ, S.modT, List.set_set]
end Go.Proofs.Ytljepmbikbdicaa

set_option maxRecDepth 100000
set_option linter.unusedVariables false
set_option linter.unusedSimpArgs false
namespace Go.Proofs.Ytljepmbikbdicaa
open Go.AM
theorem same_refl (s : S) : s.same s = true := (S.same_iff s s).2 rfl
theorem queues_c (s : S) (n : Int) : ACalls Try.prog 9 [s.av, iv n] [] (fun o H => o = .ret (.bool true) ∧ H = []) := by
  refine ACalls.up ?_
  refine ACalls.intro (cs := []) (n := 129) Try.func9 rfl rfl rfl (by kernel_rfl) rfl ?_
  have fin : ∀ b H, b = true → Up 0 (fun (o : Out) (H : Heap) => o = Out.ret (.bool true) ∧ H = []) (.ret (.bool b)) H := fun b H e => by subst e; exact up_bool ⟨rfl, rfl⟩
  generalize (fun (o : Out) (H : Heap) => o = Out.ret (.bool true) ∧ H = []) = post at fin ⊢
  simp only [go_sem, Nat.reduceAdd, Nat.reduceSub, Nat.reduceMul, Nat.reduceEqDiff, Nat.reduceLeDiff, Nat.reduceLT, ↓reduceIte, Int.reduceToNat, reduceCtorEq, S.av]
  refine rK_use (enters_of Try.func13 rfl (by decide)) (ACalls.pure_use (sane_c) rfl rfl) ?_
  simp only [go_sem, Nat.reduceAdd, Nat.reduceSub, Nat.reduceMul, Nat.reduceEqDiff, Nat.reduceLeDiff, Nat.reduceLT, ↓reduceIte, Int.reduceToNat, reduceCtorEq]
  rcases S.res_cases s (s.eBlock n) 51 with ⟨b0, hv, hr, hres⟩ | ⟨_, _, hres⟩ | ⟨_, hres⟩
  rotate_left
  · refine rK_use (enters_of Try.func20 rfl (by decide)) (ACalls.pure_use (Block_i hres) rfl rfl) ?_
    simp only [go_sem, Nat.reduceAdd, Nat.reduceSub, Nat.reduceMul, Nat.reduceEqDiff, Nat.reduceLeDiff, Nat.reduceLT, ↓reduceIte, Int.reduceToNat, reduceCtorEq, Int.cast_ofNat_Int, Int.reduceLT, Int.reduceLE, Int.reduceGT, Int.reduceGE, Int.reduceEq, Int.reduceNe, Int.reduceNeg, Int.reduceAdd, Int.reduceSub, Int.le_refl, S.av]
    exact fin _ _ rfl
  · refine rK_use (enters_of Try.func20 rfl (by decide)) (ACalls.pure_use (Block_i hres) rfl rfl) ?_
    simp only [go_sem, Nat.reduceAdd, Nat.reduceSub, Nat.reduceMul, Nat.reduceEqDiff, Nat.reduceLeDiff, Nat.reduceLT, ↓reduceIte, Int.reduceToNat, reduceCtorEq, Int.cast_ofNat_Int, Int.reduceLT, Int.reduceLE, Int.reduceGT, Int.reduceGE, Int.reduceEq, Int.reduceNe, Int.reduceNeg, Int.reduceAdd, Int.reduceSub, Int.le_refl, S.av]
    exact fin _ _ rfl
  obtain ⟨i, t, rfl, ht, hst, hb0⟩ := eBlock_some hr
  have hok := (valid_iff s).1 hv
  obtain ⟨b, w, hb, hbok, htb, hw, hwok, hend, htw, ⟨q, l, m, hqw, hrd, hil, him, hlp, hmp⟩, hsame⟩ := hok.queues ht hst
  rw [← hb] at hb0
  subst hb0
  have hbv := (valid_iff _).2 hbok
  have hwv := (valid_iff _).2 hwok
  have hbd := hok.bd ht
  refine rK_use (enters_of Try.func20 rfl (by decide)) (ACalls.pure_use (Block_i hres) rfl rfl) ?_
  simp only [go_sem, Nat.reduceAdd, Nat.reduceSub, Nat.reduceMul, Nat.reduceEqDiff, Nat.reduceLeDiff, Nat.reduceLT, ↓reduceIte, Int.reduceToNat, reduceCtorEq, Int.cast_ofNat_Int, Int.reduceLT, Int.reduceLE, Int.reduceGT, Int.reduceGE, Int.reduceEq, Int.reduceNe, Int.reduceNeg, Int.reduceAdd, Int.reduceSub, Int.le_refl, S.av]
  have hwake := Wake_i (s := b0) (n := i) (S.res_ok hbv (eWake_eq htb (by simp))) rfl
  rw [← hw] at hwake
  refine rK_use (enters_of Try.func21 rfl (by decide)) (ACalls.pure_use (hwake) rfl rfl) ?_
  simp only [go_sem, Nat.reduceAdd, Nat.reduceSub, Nat.reduceMul, Nat.reduceEqDiff, Nat.reduceLeDiff, Nat.reduceLT, ↓reduceIte, Int.reduceToNat, reduceCtorEq, Int.cast_ofNat_Int, Int.reduceLT, Int.reduceLE, Int.reduceGT, Int.reduceGE, Int.reduceEq, Int.reduceNe, Int.reduceNeg, Int.reduceAdd, Int.reduceSub, Int.le_refl, S.av]
  have hend1 := End_i (s := b0) (n := i) (S.res_ok hbv (eEnd_eq htb (by simp)))
  rw [hend] at hend1
  refine rK_use (enters_of Try.func19 rfl (by decide)) (ACalls.pure_use (hend1) rfl rfl) ?_
  simp only [go_sem, Nat.reduceAdd, Nat.reduceSub, Nat.reduceMul, Nat.reduceEqDiff, Nat.reduceLeDiff, Nat.reduceLT, ↓reduceIte, Int.reduceToNat, reduceCtorEq, Int.cast_ofNat_Int, Int.reduceLT, Int.reduceLE, Int.reduceGT, Int.reduceGE, Int.reduceEq, Int.reduceNe, Int.reduceNeg, Int.reduceAdd, Int.reduceSub, Int.le_refl, S.av]
  have hend2 := End_i (s := s) (n := i) (S.res_ok hv (eEnd_eq ht (by simp; omega)))
  refine rK_use (enters_of Try.func19 rfl (by decide)) (ACalls.pure_use (hend2) rfl rfl) ?_
  simp only [go_sem, Nat.reduceAdd, Nat.reduceSub, Nat.reduceMul, Nat.reduceEqDiff, Nat.reduceLeDiff, Nat.reduceLT, ↓reduceIte, Int.reduceToNat, reduceCtorEq, Int.cast_ofNat_Int, Int.reduceLT, Int.reduceLE, Int.reduceGT, Int.reduceGE, Int.reduceEq, Int.reduceNe, Int.reduceNeg, Int.reduceAdd, Int.reduceSub, Int.le_refl, S.av]
  have hsm := Same_c ((s.take i).setSt i 4) ((s.take i).setSt i 4)
  rw [same_refl] at hsm
  refine rK_use (enters_of Try.func33 rfl (by decide)) (ACalls.pure_use (hsm) rfl rfl) ?_
  have hiw : i < w.thr.length := (List.getElem?_eq_some_iff.1 htw).1
  have hiw2 : (i : Int) < w.thr.length := by omega
  have hlc : t.cpu.toNat < w.cpus.length := (List.getElem?_eq_some_iff.1 hqw).1
  have hlc2 : t.cpu < w.cpus.length := by omega
  have hc0 : 0 ≤ t.cpu := hbd.2.2.1
  simp only [go_sem, Nat.reduceAdd, Nat.reduceSub, Nat.reduceMul, Nat.reduceEqDiff, Nat.reduceLeDiff, Nat.reduceLT, ↓reduceIte, Int.reduceToNat, reduceCtorEq, Int.cast_ofNat_Int, Int.reduceLT, Int.reduceLE, Int.reduceGT, Int.reduceGE, Int.reduceEq, Int.reduceNe, Int.reduceNeg, Int.reduceAdd, Int.reduceSub, Int.le_refl]
  refine draw [.qu 0 0, .qu 0 0, .qu 0 0, .qu 0 0, .qu 0 0, .qu 0 0, .qu 0 0, .qu 0 0, .qu 0 0, .qu 0 0, .qu 0 0, .qu 0 0] (by kernel_rfl) (by kernel_rfl) ?_
  simp only [go_sem, Nat.reduceAdd, Nat.reduceSub, Nat.reduceMul, Nat.reduceEqDiff, Nat.reduceLeDiff, Nat.reduceLT, ↓reduceIte, Int.reduceToNat, reduceCtorEq, Int.cast_ofNat_Int, Int.reduceLT, Int.reduceLE, Int.reduceGT, Int.reduceGE, Int.reduceEq, Int.reduceNe, Int.reduceNeg, Int.reduceAdd, Int.reduceSub, Int.le_refl, List.length_map, List.getElem?_map, htw, hiw, hiw2, Int.natCast_nonneg, true_and, hqw, hlc, hlc2, hc0, T.row, Q.row]
  generalize hL : q.ready = L at hrd
  have hLl : L.length = l.length + m.length + 1 := by rw [hrd]; simp; omega
  have hrng := (hwok.due_h hqw).1
  have h16 := hwok.fit.r q (List.mem_of_getElem? hqw)
  rw [hL] at hrng h16
  have hpos : ∀ (k : Nat) y, L[k]? = some y → (k < l.length ∧ y ≠ i ∧ t.pri ≤ w.pri y) ∨ (k = l.length ∧ y = i) ∨ (l.length < k ∧ y ≠ i ∧ w.pri y < t.pri) := fun k y hk => by
    rw [hrd] at hk
    rcases Nat.lt_trichotomy k l.length with h | h | h
    · rw [List.getElem?_append_left h] at hk
      have := List.mem_of_getElem? hk
      exact .inl ⟨h, fun e => hil (e ▸ this), hlp y this⟩
    · subst h
      simp at hk
      exact .inr (.inl ⟨rfl, hk.symm⟩)
    · rw [List.getElem?_append_right (by omega), show k - l.length = (k - l.length - 1) + 1 by omega, List.getElem?_cons_succ] at hk
      have := List.mem_of_getElem? hk
      exact .inr (.inr ⟨h, fun e => him (e ▸ this), hmp y this⟩)
  refine loop_fam (fun k : Nat => (((((Ch.nil.put 1 (iv i)).put 8 (.ptr 2 0 0)).put 15 (.view false 1 (L.map r1))).put 16 (iv t.pri)).put 18 (iv k)).put 17 (.bool (decide (l.length < k))))
    (fun _ => [.dead, .dead, .rows 3 [[.view false 3 (w.cpus.map Q.row), .view false 3 (w.thr.map T.row), iv w.quantum]], .dead, .dead]) (fun k => L.length - k) (fun k => k ≤ L.length) 0 (by kernel_rfl) (Nat.zero_le _)
    (Wk.trans (Wk.slots' rfl (by simp [wkS, Ch.get, hL])) (((Wk.dead 0).trans (Wk.dead 1)).trans ((Wk.dead 3).trans (Wk.dead 4)))) ?_
  rintro k hk K hK
  simp only [go_sem, Nat.reduceAdd, Nat.reduceSub, Nat.reduceMul, Nat.reduceEqDiff, Nat.reduceLeDiff, Nat.reduceLT, ↓reduceIte, Int.reduceToNat, reduceCtorEq, Int.cast_ofNat_Int, Int.reduceLT, Int.reduceLE, Int.reduceGT, Int.reduceGE, Int.reduceEq, Int.reduceNe, Int.reduceNeg, Int.reduceAdd, Int.reduceSub, Int.le_refl, List.length_map]
  refine condD_dec (fun hg => ?_) (fun hg => ?_)
  · have hk' : k < L.length := by omega
    obtain ⟨y, hy⟩ := at_lt hk'
    have hy0 := hrng y (List.mem_of_getElem? hy)
    have hyl : y.toNat < w.thr.length := by omega
    obtain ⟨ty, hty⟩ := at_lt hyl
    have hpy : w.pri y = ty.pri := by simp [S.pri, hty]
    have e1 : iw .i64 ((k : Int) + 1) = ((k + 1 : Nat) : Int) := by rw [iw64] <;> omega
    simp only [go_sem, Nat.reduceAdd, Nat.reduceSub, Nat.reduceMul, Nat.reduceEqDiff, Nat.reduceLeDiff, Nat.reduceLT, ↓reduceIte, Int.reduceToNat, reduceCtorEq, Int.cast_ofNat_Int, Int.reduceLT, Int.reduceLE, Int.reduceGT, Int.reduceGE, Int.reduceEq, Int.reduceNe, Int.reduceNeg, Int.reduceAdd, Int.reduceSub, Int.le_refl, List.length_map, List.getElem?_map, hy, hg, hk', Int.natCast_nonneg, true_and]
    refine condD_dec (fun he => ?_) (fun he => ?_)
    · simp only [go_sem, Nat.reduceAdd, Nat.reduceSub, Nat.reduceMul, Nat.reduceEqDiff, Nat.reduceLeDiff, Nat.reduceLT, ↓reduceIte, Int.reduceToNat, reduceCtorEq, Int.cast_ofNat_Int, Int.reduceLT, Int.reduceLE, Int.reduceGT, Int.reduceGE, Int.reduceEq, Int.reduceNe, Int.reduceNeg, Int.reduceAdd, Int.reduceSub, Int.le_refl, e1]
      refine hK (k + 1) _ _ hk' (by omega) (Wk.slots' rfl (by
        simp [wkS, Ch.get]
        rcases hpos k y hy with h | h | h <;> omega))
    · simp only [go_sem, Nat.reduceAdd, Nat.reduceSub, Nat.reduceMul, Nat.reduceEqDiff, Nat.reduceLeDiff, Nat.reduceLT, ↓reduceIte, Int.reduceToNat, reduceCtorEq, Int.cast_ofNat_Int, Int.reduceLT, Int.reduceLE, Int.reduceGT, Int.reduceGE, Int.reduceEq, Int.reduceNe, Int.reduceNeg, Int.reduceAdd, Int.reduceSub, Int.le_refl]
      refine draw [.qu 0 0, .qu 0 0, .qu 0 0, .qu 0 0, .qu 0 0, .qu 0 0, .qu 0 0, .qu 0 0, .qu 0 0, .qu 0 0, .qu 0 0, .qu 0 0, .qu 0 0] (by kernel_rfl) (by kernel_rfl) ?_
      simp only [go_sem, Nat.reduceAdd, Nat.reduceSub, Nat.reduceMul, Nat.reduceEqDiff, Nat.reduceLeDiff, Nat.reduceLT, ↓reduceIte, Int.reduceToNat, reduceCtorEq, Int.cast_ofNat_Int, Int.reduceLT, Int.reduceLE, Int.reduceGT, Int.reduceGE, Int.reduceEq, Int.reduceNe, Int.reduceNeg, Int.reduceAdd, Int.reduceSub, Int.le_refl, List.length_map, List.getElem?_map, hy, hg, hk', Int.natCast_nonneg, true_and, hty, hyl, hy0, T.row]
      have hlk : decide (l.length < k + 1) = decide (l.length < k) := by
        rcases hpos k y hy with h | h | h
        · rw [decide_eq_false (by omega), decide_eq_false (by omega)]
        · exact absurd h.2 he
        · rw [decide_eq_true (by omega), decide_eq_true (by omega)]
      have hne : (decide (t.pri ≤ ty.pri) == decide (l.length < k)) = false := by
        rcases hpos k y hy with h | h | h
        · rw [decide_eq_true (by omega), decide_eq_false (by omega)]; rfl
        · exact absurd h.2 he
        · rw [decide_eq_false (by omega), decide_eq_true (by omega)]; rfl
      rw [hne]
      simp only [go_sem, Nat.reduceAdd, Nat.reduceSub, Nat.reduceMul, Nat.reduceEqDiff, Nat.reduceLeDiff, Nat.reduceLT, ↓reduceIte, Int.reduceToNat, reduceCtorEq, Int.cast_ofNat_Int, Int.reduceLT, Int.reduceLE, Int.reduceGT, Int.reduceGE, Int.reduceEq, Int.reduceNe, Int.reduceNeg, Int.reduceAdd, Int.reduceSub, Int.le_refl, e1]
      exact hK (k + 1) _ _ hk' (by omega) (Wk.slots' rfl (by simp only [hlk]; simp [wkS, Ch.get]))
  · have hkL : k = L.length := by omega
    subst hkL
    have hz := SetPri_i (s := w) (n := i) (p := t.pri) (S.res_ok hwv (eSetPri_eq htw (by simp) ⟨hbd.1, hbd.2.1⟩))
    simp only [if_true, hsame] at hz
    have hsm2 := Same_c w w
    rw [same_refl] at hsm2
    have hlt : l.length < L.length := by omega
    simp only [go_sem, Nat.reduceAdd, Nat.reduceSub, Nat.reduceMul, Nat.reduceEqDiff, Nat.reduceLeDiff, Nat.reduceLT, ↓reduceIte, Int.reduceToNat, reduceCtorEq, Int.cast_ofNat_Int, Int.reduceLT, Int.reduceLE, Int.reduceGT, Int.reduceGE, Int.reduceEq, Int.reduceNe, Int.reduceNeg, Int.reduceAdd, Int.reduceSub, Int.le_refl, S.av]
    refine rK_use (enters_of Try.func22 rfl (by decide)) (ACalls.pure_use (hz) rfl rfl) ?_
    simp only [go_sem, Nat.reduceAdd, Nat.reduceSub, Nat.reduceMul, Nat.reduceEqDiff, Nat.reduceLeDiff, Nat.reduceLT, ↓reduceIte, Int.reduceToNat, reduceCtorEq, Int.cast_ofNat_Int, Int.reduceLT, Int.reduceLE, Int.reduceGT, Int.reduceGE, Int.reduceEq, Int.reduceNe, Int.reduceNeg, Int.reduceAdd, Int.reduceSub, Int.le_refl, S.av, hlt]
    refine rK_use (enters_of Try.func33 rfl (by decide)) (ACalls.pure_use (hsm2) rfl rfl) ?_
    simp only [go_sem, Nat.reduceAdd, Nat.reduceSub, Nat.reduceMul, Nat.reduceEqDiff, Nat.reduceLeDiff, Nat.reduceLT, ↓reduceIte, Int.reduceToNat, reduceCtorEq, Int.cast_ofNat_Int, Int.reduceLT, Int.reduceLE, Int.reduceGT, Int.reduceGE, Int.reduceEq, Int.reduceNe, Int.reduceNeg, Int.reduceAdd, Int.reduceSub, Int.le_refl]
    exact fin _ _ rfl
end Go.Proofs.Ytljepmbikbdicaa

set_option maxRecDepth 100000
set_option linter.unusedVariables false
set_option linter.unusedSimpArgs false
namespace Go.Proofs.Ytljepmbikbdicaa.schedQueues
open Go.AM
open Go.ChangeShapes Go.WideShapes Go.ChangeAt Go.RowKit
theorem own : ownKnob Try.prog.godebug = none := by kernel_rfl
theorem lifted (os : Os) (started : os.Started) (H : Type) (enc : TypeId × Value → H) :
    ReturnsInHanded {} Try.checked os 9 .any (Rows.schedQueuesSpec.pre6 enc Try.prog Try.f9 Rows.schedQueuesRow.domain false) (Rows.schedQueuesSpec.post enc Try.prog Try.f9 false true false false) := by
  refine returnsInHanded_of_change (C := Try.checked) own started (by kernel_rfl) Try.func9
    (ChangeSpec.witness6 (enc := enc) (C := Try.checked) false ⟨#[], #[.agg #[.slice none 0 0, .slice none 0 0, .int .i64 0], .int .i64 0], []⟩ 8 (by kernel_rfl) (by kernel_rfl) (by kernel_rfl) (by kernel_rfl)) ?_
  intro W base args ds gs before hval0 hW hcnd _
  have hval : ∀ (j : Nat) t v, Try.f9.params[j]? = some t → args[j]? = some v → Value.okWide Try.prog W .any base t v := hval0
  have hW' := hW
  obtain ⟨p, q, hA0, hV, rfl, hfz, hnd⟩ := hW'
  have hA : DataW.TrodAll enc Try.prog W 0 (fun _ => true) true Try.f9.params.toList args.toList ds p := hA0
  rw [Try.params9] at hA hval
  obtain ⟨v0, vs0, d0, ds0, p0, q0, hargs, rfl, rfl, h0, r0⟩ := trodAll_cons hA
  obtain ⟨v1, vs1, d1, ds1, p1, q1, rfl, rfl, rfl, h1, r1⟩ := trodAll_cons r0
  obtain ⟨rfl, rfl, rfl⟩ := trodAll_nil r1
  obtain rfl : args = #[v0, v1] := by cases args; simp_all
  obtain ⟨a0, g0⟩ := read_sched (hval 0 _ v0 rfl rfl) h0
  obtain ⟨a1, g1, w1⟩ := read_int (hval 1 _ v1 rfl rfl) h1
  refine law_contract (queues_c a0 a1) hW rfl rfl Try.underlying4 rfl lout ?_ (vrs_cons g0 (vrs_cons g1 vrs_nil))
  intro t ht
  rw [Try.params9] at ht
  simp only [List.mem_cons, List.not_mem_nil, or_false] at ht
  rcases ht with rfl | rfl
  · exact rd_sched
  · exact rd_int
theorem over : Rows.schedQueuesRow.holds Try.pinned (OpenSpec.ofChange Rows.schedQueuesSpec) :=
  OpenClaim.holds_of_wide 9 Try.f9 rfl rfl rfl rfl rfl rfl rfl ⟨rfl, rfl, rfl, rfl, rfl⟩ rfl rfl rfl rfl rfl (by kernel_rfl) Try.func9 (by kernel_rfl)
    (of_decide_eq_true (by kernel_rfl)) (by unfold Func.isWrapper; first | (rw [if_pos (by decide +kernel)]; kernel_rfl) | (rw [if_neg (by decide +kernel)]; exact ⟨rfl, rfl⟩))
    (fun os started H enc _ => lifted os started H enc)
end Go.Proofs.Ytljepmbikbdicaa.schedQueues
namespace Go.Proofs.Ytljepmbikbdicaa
theorem SchedQueues_holds : Rows.SchedQueuesSaid := schedQueues.over
end Go.Proofs.Ytljepmbikbdicaa
