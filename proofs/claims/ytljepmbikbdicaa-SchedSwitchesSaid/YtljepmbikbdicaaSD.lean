/- Sched: the operations keep a state in order. No condition. -/
import Derived.Test.YtljepmbikbdicaaSC
import Derived.Test.YtljepmbikbdicaaSA
import Derived.Test.YtljepmbikbdicaaKE
import Derived.Test.YtljepmbikbdicaaRows
set_option maxRecDepth 100000
set_option linter.unusedVariables false
set_option linter.unusedSimpArgs false
namespace Go.Proofs.Ytljepmbikbdicaa
open Go.AM
/-- In order, but for one thread, which is in no queue and on no processor. -/
structure S.OkB (s : S) (i : Nat) : Prop where
  c1 : 1 ≤ s.cpus.length
  c4 : s.cpus.length ≤ 4
  t16 : s.thr.length ≤ 16
  q1 : 1 ≤ s.quantum
  q20 : s.quantum ≤ 20
  il : i < s.thr.length
  thr : ∀ (j : Nat) t, s.thr[j]? = some t → 0 ≤ t.pri ∧ t.pri ≤ 7 ∧ 0 ≤ t.cpu ∧ t.cpu < s.cpus.length ∧ (j ≠ i → 1 ≤ t.st ∧ t.st ≤ 4)
  run : ∀ (c : Nat) q, s.cpus[c]? = some q → (q.run = -1 ∧ q.left = 0) ∨ (q.run ≠ i ∧ s.is q.run c 2 = true ∧ 0 ≤ q.left ∧ q.left ≤ s.quantum)
  rdy : ∀ (c : Nat) q, s.cpus[c]? = some q → (∀ x ∈ q.ready, x ≠ i ∧ s.is x c 1 = true) ∧ q.ready.Nodup ∧ q.ready.Pairwise (fun x y => s.pri y ≤ s.pri x)
  allr : ∀ (j : Nat) t, j ≠ i → s.thr[j]? = some t → t.st = 1 → ∃ q, s.cpus[t.cpu.toNat]? = some q ∧ (j : Int) ∈ q.ready
  allrun : ∀ (j : Nat) t, j ≠ i → s.thr[j]? = some t → t.st = 2 → ∃ q, s.cpus[t.cpu.toNat]? = some q ∧ q.run = j
def S.modT (s : S) (i : Nat) (t : T) : S := { s with thr := s.thr.set i t }
theorem modT_is {s : S} {i : Nat} {t : T} {x : Int} (h : x ≠ i) (c st : Int) (h0 : 0 ≤ x ∨ s.is x c st = true ∨ (s.modT i t).is x c st = true) : (s.modT i t).is x c st = s.is x c st := by
  have hx : 0 ≤ x := by
    rcases h0 with h | h | h
    · exact h
    · exact (S.is_lt h).1
    · exact (S.is_lt h).1
  have hne : ¬ i = x.toNat := by omega
  simp only [S.is, S.modT, List.getElem?_set, if_neg hne]
theorem modT_pri {s : S} {i : Nat} {t : T} {x : Int} (h : x ≠ i) (hx : 0 ≤ x) : (s.modT i t).pri x = s.pri x := by
  have hne : ¬ i = x.toNat := by omega
  simp only [S.pri, S.modT, List.getElem?_set, if_neg hne]
theorem pair_congr {s s' : S} {l : List Int} (h : l.Pairwise (fun x y => s.pri y ≤ s.pri x)) (he : ∀ x ∈ l, s'.pri x = s.pri x) : l.Pairwise (fun x y => s'.pri y ≤ s'.pri x) := by
  refine h.imp_of_mem ?_
  intro a b ha hb hab
  rw [he a ha, he b hb]
  exact hab
theorem S.OkB.modT {s : S} {i : Nat} (h : s.OkB i) {t : T} (ht : 0 ≤ t.pri ∧ t.pri ≤ 7 ∧ 0 ≤ t.cpu ∧ t.cpu < s.cpus.length) : (s.modT i t).OkB i where
  c1 := h.c1
  c4 := h.c4
  t16 := by simp [S.modT]; exact h.t16
  q1 := h.q1
  q20 := h.q20
  il := by simp [S.modT]; exact h.il
  thr := fun j t' hj => by
    simp only [S.modT, List.getElem?_set] at hj
    split at hj
    · rename_i e
      split at hj
      · cases hj
        exact ⟨ht.1, ht.2.1, ht.2.2.1, ht.2.2.2, fun hne => absurd e.symm hne⟩
      · cases hj
    · exact h.thr j t' hj
  run := fun c q hq => (h.run c q hq).imp id fun ⟨h1, h2, h3⟩ => ⟨h1, by rw [modT_is h1 _ _ (.inr (.inl h2))]; exact h2, h3⟩
  rdy := fun c q hq => by
    obtain ⟨h1, h2, h3⟩ := h.rdy c q hq
    exact ⟨fun x hx => ⟨(h1 x hx).1, by rw [modT_is (h1 x hx).1 _ _ (.inr (.inl (h1 x hx).2))]; exact (h1 x hx).2⟩, h2, pair_congr h3 fun x hx => modT_pri (h1 x hx).1 (S.is_lt (h1 x hx).2).1⟩
  allr := fun j t' hj hjt hst => by
    simp only [S.modT, List.getElem?_set, if_neg (Ne.symm hj)] at hjt
    exact h.allr j t' hj hjt hst
  allrun := fun j t' hj hjt hst => by
    simp only [S.modT, List.getElem?_set, if_neg (Ne.symm hj)] at hjt
    exact h.allrun j t' hj hjt hst
/-- The thread waits, or has ended. -/
theorem S.OkB.ok {s : S} {i : Nat} {t : T} (h : s.OkB i) (ht : s.thr[i]? = some t) (hst : t.st = 3 ∨ t.st = 4) : s.Ok where
  c1 := h.c1
  c4 := h.c4
  t16 := h.t16
  q1 := h.q1
  q20 := h.q20
  thr := fun t' hm => by
    obtain ⟨j, hj, rfl⟩ := List.getElem_of_mem hm
    have hj' := List.getElem?_eq_getElem hj
    obtain ⟨h1, h2, h3, h4, h5⟩ := h.thr j _ hj'
    refine ⟨h1, h2, h3, h4, ?_⟩
    by_cases e : j = i
    · subst e
      rw [ht] at hj'
      have := Option.some.inj hj'
      rw [← this]
      omega
    · exact h5 e
  run := fun c q hq => (h.run c q hq).imp id fun h => h.2
  rdy := fun c q hq => ⟨fun x hx => ((h.rdy c q hq).1 x hx).2, (h.rdy c q hq).2⟩
  allr := fun j t' hj hst' => by
    refine h.allr j t' (fun e => ?_) hj hst'
    subst e
    rw [ht] at hj
    cases hj
    omega
  allrun := fun j t' hj hst' => by
    refine h.allrun j t' (fun e => ?_) hj hst'
    subst e
    rw [ht] at hj
    cases hj
    omega
/-- A thread that waits is in no queue. -/
theorem S.Ok.okB {s : S} {i : Nat} {t : T} (h : s.Ok) (ht : s.thr[i]? = some t) (hst : t.st ≠ 1 ∧ t.st ≠ 2) : s.OkB i where
  c1 := h.c1
  c4 := h.c4
  t16 := h.t16
  q1 := h.q1
  q20 := h.q20
  il := (List.getElem?_eq_some_iff.1 ht).1
  thr := fun j t' hj => by
    have := h.thr t' (List.mem_of_getElem? hj)
    exact ⟨this.1, this.2.1, this.2.2.1, this.2.2.2.1, fun _ => this.2.2.2.2⟩
  run := fun c q hq => (h.run c q hq).imp id fun h => ⟨fun e => by
    have := (is_cpu h.1 (e ▸ is_of ht)).2
    omega, h⟩
  rdy := fun c q hq => by
    obtain ⟨h1, h2⟩ := h.rdy c q hq
    exact ⟨fun x hx => ⟨fun e => by
      have := (is_cpu (h1 x hx) (e ▸ is_of ht)).2
      omega, h1 x hx⟩, h2⟩
  allr := fun j t' _ => h.allr j t'
  allrun := fun j t' _ => h.allrun j t'
theorem setQ_is (s : S) (c : Nat) (q : Q) (x d st : Int) : (s.setQ c q).is x d st = s.is x d st := rfl
theorem setQ_pri (s : S) (c : Nat) (q : Q) (x : Int) : (s.setQ c q).pri x = s.pri x := rfl
theorem setQ_get {s : S} {c : Nat} {q : Q} {d : Nat} {q' : Q} (h : (s.setQ c q).cpus[d]? = some q') : (d = c ∧ q' = q) ∨ (d ≠ c ∧ s.cpus[d]? = some q') := by
  simp only [S.setQ, List.getElem?_set] at h
  split at h
  · rename_i e
    split at h
    · cases h; exact .inl ⟨e.symm, rfl⟩
    · cases h
  · rename_i e
    exact .inr ⟨fun h => e h.symm, h⟩
theorem setQ_self {s : S} {c : Nat} {q : Q} (h : c < s.cpus.length) : (s.setQ c q).cpus[c]? = some q := by simp [S.setQ, h]
theorem setQ_ne {s : S} {c d : Nat} {q : Q} (h : d ≠ c) : (s.setQ c q).cpus[d]? = s.cpus[d]? := by
  simp only [S.setQ, List.getElem?_set]
  rw [if_neg (Ne.symm h)]
/-- Behind take. -/
theorem S.Ok.take {s : S} {i : Nat} {t : T} (h : s.Ok) (ht : s.thr[i]? = some t) : (s.take i).OkB i := by
  obtain ⟨q, hq, hc0, _⟩ := h.at ht
  have hlc : t.cpu.toNat < s.cpus.length := (List.getElem?_eq_some_iff.1 hq).1
  have hil : i < s.thr.length := (List.getElem?_eq_some_iff.1 ht).1
  have hcc : ((t.cpu.toNat : Nat) : Int) = t.cpu := by omega
  rw [S.take_eq ht hq]
  have other : ∀ (d : Nat) st, s.is i d st = true → d = t.cpu.toNat := fun d st hd => by
    have := (is_cpu hd (is_of ht)).1
    omega
  refine ⟨by simp [S.setQ]; exact h.c1, by simp [S.setQ]; exact h.c4, h.t16, h.q1, h.q20, hil, ?_, ?_, ?_, ?_, ?_⟩
  · intro j t' hj
    have := h.thr t' (List.mem_of_getElem? hj)
    refine ⟨this.1, this.2.1, this.2.2.1, by simp [S.setQ]; exact this.2.2.2.1, fun _ => this.2.2.2.2⟩
  · intro d q' hd
    rcases setQ_get hd with ⟨rfl, rfl⟩ | ⟨hne, hd⟩
    · by_cases hr : q.run = i
      · exact .inl (by simp [Q.out, hr])
      · have := h.run _ q hq
        simp only [Q.out, if_neg hr]
        exact this.imp id fun h => ⟨hr, h⟩
    · exact (h.run d q' hd).imp id fun h => ⟨fun e => hne (other d 2 (e ▸ h.1)), h⟩
  · intro d q' hd
    rcases setQ_get hd with ⟨rfl, rfl⟩ | ⟨hne, hd⟩
    · obtain ⟨h1, h2, h3⟩ := h.rdy _ q hq
      refine ⟨fun x hx => ?_, h2.erase _, h3.sublist List.erase_sublist⟩
      have := (h2.mem_erase_iff).1 hx
      exact ⟨this.1, h1 x this.2⟩
    · obtain ⟨h1, h2, h3⟩ := h.rdy d q' hd
      exact ⟨fun x hx => ⟨fun e => hne (other d 1 (e ▸ h1 x hx)), h1 x hx⟩, h2, h3⟩
  · intro j t' hj hjt hst
    obtain ⟨q', hq', hm⟩ := h.allr j t' hjt hst
    by_cases e : t'.cpu.toNat = t.cpu.toNat
    · rw [e] at hq' ⊢
      rw [hq] at hq'
      cases hq'
      exact ⟨_, setQ_self hlc, (List.mem_erase_of_ne (by omega)).2 hm⟩
    · exact ⟨q', by rw [setQ_ne e]; exact hq', hm⟩
  · intro j t' hj hjt hst
    obtain ⟨q', hq', hm⟩ := h.allrun j t' hjt hst
    by_cases e : t'.cpu.toNat = t.cpu.toNat
    · rw [e] at hq' ⊢
      rw [hq] at hq'
      cases hq'
      exact ⟨_, setQ_self hlc, by simp only [Q.out]; rw [if_neg (by omega)]; exact hm⟩
    · exact ⟨q', by rw [setQ_ne e]; exact hq', hm⟩
/-! ### insertion -/
theorem ins_idxF (p : Int → Bool) (l : List Int) (x : Int) : ∃ a b, l = a ++ b ∧ ins l (idxF p l 0) x = a ++ x :: b ∧ (∀ y ∈ a, p y = false) ∧ (∀ y m, b = y :: m → p y = true) := by
  have key : ∀ (l : List Int) (i : Int), (idxF p l i = -1 ∧ ∀ y ∈ l, p y = false) ∨ ∃ a y m, l = a ++ y :: m ∧ idxF p l i = i + a.length ∧ (∀ z ∈ a, p z = false) ∧ p y = true := by
    intro l
    induction l with
    | nil => intro i; exact .inl ⟨rfl, by simp⟩
    | cons y l ih =>
      intro i
      by_cases h : p y = true
      · exact .inr ⟨[], y, l, rfl, by simp [idxF, h], by simp, h⟩
      · rcases ih (i + 1) with ⟨h1, h2⟩ | ⟨a, z, m, h1, h2, h3, h4⟩
        · exact .inl ⟨by simp [idxF, h, h1], by simpa [h] using h2⟩
        · refine .inr ⟨y :: a, z, m, by simp [h1], ?_, by simpa [h] using h3, h4⟩
          simp only [idxF, if_neg h, h2, List.length_cons]
          omega
  rcases key l 0 with ⟨h1, h2⟩ | ⟨a, y, m, h1, h2, h3, h4⟩
  · exact ⟨l, [], by simp, by simp [ins, h1], h2, by simp⟩
  · refine ⟨a, y :: m, h1, ?_, h3, fun z n e => by cases e; exact h4⟩
    have h5 : (0 : Int) + a.length = ((a.length : Nat) : Int) := by omega
    rw [ins, h2, h5, if_neg (by omega), h1]
    simp
theorem S.OkB.put {s : S} {i : Nat} {t : T} (h : s.OkB i) (ht : s.thr[i]? = some t) (front : Bool) : (s.put i front).Ok := by
  have hb := h.thr i t ht
  obtain ⟨q, hq⟩ : ∃ q, s.cpus[t.cpu.toNat]? = some q := at_lt (by omega)
  have hlc : t.cpu.toNat < s.cpus.length := (List.getElem?_eq_some_iff.1 hq).1
  have hcc : ((t.cpu.toNat : Nat) : Int) = t.cpu := by omega
  obtain ⟨a, b, hab, hins, ha, hbb⟩ := ins_idxF (s.below t.pri front) q.ready i
  have hput : s.put i front = (s.modT i { t with st := 1 }).setQ t.cpu.toNat { q with ready := a ++ (i : Int) :: b } := by
    rw [S.put_eq ht hq, hins]; rfl
  have hB := h.modT (t := { t with st := 1 }) ⟨hb.1, hb.2.1, hb.2.2.1, hb.2.2.2.1⟩
  have hti : (s.modT i { t with st := 1 }).thr[i]? = some { t with st := 1 } := by simp [S.modT, h.il]
  obtain ⟨g1, g2, g3⟩ := hB.rdy _ q hq
  have gp : (s.modT i { t with st := 1 }).pri i = t.pri := by simp [S.pri, hti]
  have gx : ∀ x ∈ q.ready, (s.modT i { t with st := 1 }).pri x = s.pri x := fun x hx => modT_pri (g1 x hx).1 (S.is_lt (g1 x hx).2).1
  rw [hput]
  have hget := hB
  refine ⟨by simp [S.setQ]; exact hB.c1, by simp [S.setQ]; exact hB.c4, hB.t16, hB.q1, hB.q20, ?_, ?_, ?_, ?_, ?_⟩
  · intro t' hm
    obtain ⟨j, hj, rfl⟩ := List.getElem_of_mem hm
    have hj' := List.getElem?_eq_getElem hj
    obtain ⟨h1, h2, h3, h4, h5⟩ := hB.thr j _ hj'
    refine ⟨h1, h2, h3, by simpa [S.setQ] using h4, ?_⟩
    by_cases e : j = i
    · subst e
      have hj2 := hj'
      change (s.modT j { t with st := 1 }).thr[j]? = _ at hj2
      rw [hti] at hj2
      have := Option.some.inj hj2
      rw [← this]
      simp
    · exact h5 e
  · intro d q' hd
    rcases setQ_get hd with ⟨rfl, rfl⟩ | ⟨hne, hd⟩
    · exact (hB.run _ q hq).imp id fun h => h.2
    · exact (hB.run d q' hd).imp id fun h => h.2
  · intro d q' hd
    rcases setQ_get hd with ⟨rfl, rfl⟩ | ⟨hne, hd⟩
    · refine ⟨fun x hx => ?_, ?_, ?_⟩
      · simp only [List.mem_append, List.mem_cons] at hx
        have hx' : x = i ∨ x ∈ q.ready := by
          rw [hab]
          rcases hx with h | h | h
          · exact .inr (by simp [h])
          · exact .inl h
          · exact .inr (by simp [h])
        rcases hx' with rfl | hx'
        · rw [setQ_is]
          have := is_of hti
          rw [hcc]
          exact this
        · exact (g1 x hx').2
      · rw [hab] at g2
        have hn : (i : Int) ∉ a ++ b := by rw [← hab]; exact fun h => (g1 _ h).1 rfl
        simp only [List.nodup_append, List.nodup_cons, List.mem_append, List.mem_cons] at g2 hn ⊢
        refine ⟨g2.1, ⟨fun h => hn (.inr h), g2.2.1⟩, fun x hx y hy => ?_⟩
        rcases hy with rfl | hy
        · intro e; subst e; exact hn (.inl hx)
        · exact g2.2.2 x hx y hy
      · have hap : ∀ x ∈ a, t.pri ≤ s.pri x := fun x hx => by
          have := ha x hx
          simp [S.below] at this
          omega
        have hbp : ∀ y ∈ b, s.pri y ≤ t.pri := fun y hy => by
          cases b with
          | nil => cases hy
          | cons z m =>
            have h0 := hbb z m rfl
            simp [S.below] at h0
            have hz : s.pri z ≤ t.pri := by omega
            rcases List.mem_cons.1 hy with rfl | hy
            · exact hz
            · rw [hab, List.pairwise_append] at g3
              have := (List.pairwise_cons.1 g3.2.1).1 y hy
              rw [gx y (by rw [hab]; simp [hy]), gx z (by rw [hab]; simp)] at this
              omega
        have g3' := g3
        rw [hab, List.pairwise_append] at g3'
        simp only [setQ_pri]
        rw [List.pairwise_append]
        refine ⟨g3'.1, List.pairwise_cons.2 ⟨fun y hy => ?_, g3'.2.1⟩, fun x hx y hy => ?_⟩
        · rw [gp, gx y (by rw [hab]; simp [hy])]
          exact hbp y hy
        · rcases List.mem_cons.1 hy with rfl | hy
          · rw [gp, gx x (by rw [hab]; simp [hx])]
            exact hap x hx
          · exact g3'.2.2 x hx y hy
    · obtain ⟨h1, h2, h3⟩ := hB.rdy d q' hd
      exact ⟨fun x hx => (h1 x hx).2, h2, h3⟩
  · intro j t' hjt hst
    by_cases e : j = i
    · subst e
      have hj2 : (s.modT j { t with st := 1 }).thr[j]? = some t' := hjt
      rw [hti] at hj2
      cases hj2
      exact ⟨_, setQ_self hlc, by simp⟩
    · obtain ⟨q', hq', hm⟩ := hB.allr j t' e hjt hst
      by_cases e2 : t'.cpu.toNat = t.cpu.toNat
      · rw [e2] at hq' ⊢
        have hq2 : (s.modT i { t with st := 1 }).cpus[t.cpu.toNat]? = some q := hq
        rw [hq2] at hq'
        cases hq'
        refine ⟨_, setQ_self hlc, ?_⟩
        rw [hab] at hm
        simp only [List.mem_append, List.mem_cons] at hm ⊢
        rcases hm with hm | hm
        · exact .inl hm
        · exact .inr (.inr hm)
      · exact ⟨q', by rw [setQ_ne e2]; exact hq', hm⟩
  · intro j t' hjt hst
    by_cases e : j = i
    · subst e
      have hj2 : (s.modT j { t with st := 1 }).thr[j]? = some t' := hjt
      rw [hti] at hj2
      cases hj2
      simp at hst
    · obtain ⟨q', hq', hm⟩ := hB.allrun j t' e hjt hst
      by_cases e2 : t'.cpu.toNat = t.cpu.toNat
      · rw [e2] at hq' ⊢
        have hq2 : (s.modT i { t with st := 1 }).cpus[t.cpu.toNat]? = some q := hq
        rw [hq2] at hq'
        cases hq'
        exact ⟨_, setQ_self hlc, hm⟩
      · exact ⟨q', by rw [setQ_ne e2]; exact hq', hm⟩
end Go.Proofs.Ytljepmbikbdicaa

set_option maxRecDepth 100000
set_option linter.unusedVariables false
set_option linter.unusedSimpArgs false
namespace Go.Proofs.Ytljepmbikbdicaa
open Go.AM
theorem setSt_modT {s : S} {i : Nat} {t : T} (ht : s.thr[i]? = some t) (st : Int) : s.setSt i st = s.modT i { t with st := st } := S.setSt_eq ht st
theorem setPri_modT {s : S} {i : Nat} {t : T} (ht : s.thr[i]? = some t) (p : Int) : s.setPri i p = s.modT i { t with pri := p } := S.setPri_eq ht p
theorem setCpu_modT {s : S} {i : Nat} {t : T} (ht : s.thr[i]? = some t) (p : Int) : s.setCpu i p = s.modT i { t with cpu := p } := S.setCpu_eq ht p
theorem modT_get {s : S} {i : Nat} {t t' : T} (ht : s.thr[i]? = some t) : (s.modT i t').thr[i]? = some t' := by
  have := (List.getElem?_eq_some_iff.1 ht).1
  simp [S.modT, this]
theorem S.Ok.bd {s : S} (h : s.Ok) {i : Nat} {t : T} (ht : s.thr[i]? = some t) : 0 ≤ t.pri ∧ t.pri ≤ 7 ∧ 0 ≤ t.cpu ∧ t.cpu < s.cpus.length ∧ 1 ≤ t.st ∧ t.st ≤ 4 := h.thr t (List.mem_of_getElem? ht)
theorem take_get {s : S} {i : Nat} {t : T} (ht : s.thr[i]? = some t) : (s.take i).thr[i]? = some t := by rw [S.take_thr]; exact ht
theorem take_len {s : S} {i : Nat} : (s.take i).cpus.length = s.cpus.length := by
  unfold S.take
  split
  · rfl
  · split <;> simp
/-- End, Block. -/
theorem S.Ok.leave {s : S} (h : s.Ok) {i : Nat} {t : T} (ht : s.thr[i]? = some t) {st : Int} (hst : st = 3 ∨ st = 4) : ((s.take i).setSt i st).Ok := by
  have hB := h.take ht
  have ht2 := take_get ht
  have hb := h.bd ht
  rw [setSt_modT ht2]
  refine (hB.modT (t := { t with st := st }) ⟨hb.1, hb.2.1, hb.2.2.1, by rw [take_len]; exact hb.2.2.2.1⟩).ok (modT_get ht2) hst
theorem S.Ok.wake {s : S} (h : s.Ok) {i : Nat} {t : T} (ht : s.thr[i]? = some t) (hst : t.st = 3) (front : Bool) : (s.put i front).Ok := (h.okB ht (by omega)).put ht front
theorem S.Ok.more {s : S} (h : s.Ok) {p : Int} {c : Nat} {q : Q} (hp : 0 ≤ p ∧ p ≤ 7) (hc : s.cpus[c]? = some q) (hl : s.thr.length < 16) : ((s.more p c).put s.thr.length false).Ok := by
  have hlc := (List.getElem?_eq_some_iff.1 hc).1
  have hget : (s.more p c).thr[s.thr.length]? = some ⟨p, c, 0⟩ := by simp [S.more]
  have his : ∀ x d st, s.is x d st = true → (s.more p c).is x d st = true := fun x d st hx => by
    have := S.is_lt hx
    simp only [S.is, S.more] at hx ⊢
    rw [List.getElem?_append_left (by omega)]
    exact hx
  have hpr : ∀ x : Int, 0 ≤ x → x < s.thr.length → (s.more p c).pri x = s.pri x := fun x h0 h1 => by
    simp only [S.pri, S.more]
    rw [List.getElem?_append_left (by omega)]
  have hj : ∀ (j : Nat) t, (s.more p c).thr[j]? = some t → j ≠ s.thr.length → s.thr[j]? = some t := fun j t hj hne => by
    simp only [S.more, List.getElem?_append] at hj
    split at hj
    · exact hj
    · rename_i hge
      have := (List.getElem?_eq_some_iff.1 hj).1
      simp at this
      omega
  refine S.OkB.put (s := s.more p c) (i := s.thr.length) (t := ⟨p, c, 0⟩) ⟨h.c1, h.c4, by simp [S.more]; omega, h.q1, h.q20, by simp [S.more], ?_, ?_, ?_, ?_, ?_⟩ hget false
  · intro j t hjt
    by_cases e : j = s.thr.length
    · subst e
      rw [hget] at hjt
      cases hjt
      exact ⟨hp.1, hp.2, by dsimp only; omega, by dsimp only [S.more]; omega, fun h => absurd rfl h⟩
    · have := h.bd (hj j t hjt e)
      exact ⟨this.1, this.2.1, this.2.2.1, this.2.2.2.1, fun _ => this.2.2.2.2⟩
  · intro d q' hd
    exact (h.run d q' hd).imp id fun h => ⟨fun e => by have := (S.is_lt h.1).2; omega, his _ _ _ h.1, h.2⟩
  · intro d q' hd
    obtain ⟨h1, h2, h3⟩ := h.rdy d q' hd
    exact ⟨fun x hx => ⟨fun e => by have := (S.is_lt (h1 x hx)).2; omega, his _ _ _ (h1 x hx)⟩, h2, pair_congr h3 fun x hx => hpr x (S.is_lt (h1 x hx)).1 (S.is_lt (h1 x hx)).2⟩
  · intro j t hne hjt
    exact h.allr j t (hj j t hjt hne)
  · intro j t hne hjt
    exact h.allrun j t (hj j t hjt hne)
/-- The time slice. -/
theorem S.Ok.setLeft {s : S} (h : s.Ok) {c : Nat} {q : Q} (hq : s.cpus[c]? = some q) {n : Int} (hn : (q.run = -1 → n = 0) ∧ 0 ≤ n ∧ n ≤ s.quantum) : (s.setQ c { q with left := n }).Ok := by
  have hlc := (List.getElem?_eq_some_iff.1 hq).1
  refine ⟨by simp [S.setQ]; exact h.c1, by simp [S.setQ]; exact h.c4, h.t16, h.q1, h.q20, fun t ht => by simp [S.setQ]; exact h.thr t ht, ?_, ?_, ?_, ?_⟩
  · intro d q' hd
    rcases setQ_get hd with ⟨rfl, rfl⟩ | ⟨hne, hd⟩
    · rcases h.run d q hq with h1 | h1
      · exact .inl ⟨h1.1, hn.1 h1.1⟩
      · exact .inr ⟨h1.1, hn.2⟩
    · exact h.run d q' hd
  · intro d q' hd
    rcases setQ_get hd with ⟨rfl, rfl⟩ | ⟨hne, hd⟩
    · exact h.rdy d q hq
    · exact h.rdy d q' hd
  · intro j t hj hst
    obtain ⟨q', hq', hm⟩ := h.allr j t hj hst
    by_cases e : t.cpu.toNat = c
    · rw [e] at hq' ⊢
      rw [hq] at hq'
      cases hq'
      exact ⟨_, setQ_self hlc, hm⟩
    · exact ⟨q', by rw [setQ_ne e]; exact hq', hm⟩
  · intro j t hj hst
    obtain ⟨q', hq', hm⟩ := h.allrun j t hj hst
    by_cases e : t.cpu.toNat = c
    · rw [e] at hq' ⊢
      rw [hq] at hq'
      cases hq'
      exact ⟨_, setQ_self hlc, hm⟩
    · exact ⟨q', by rw [setQ_ne e]; exact hq', hm⟩
theorem S.Ok.tick {s : S} (h : s.Ok) (c : Nat) : (s.tick c).Ok := by
  unfold S.tick
  split
  · rename_i q hq
    refine h.setLeft hq ?_
    have := h.q1
    rcases h.run c q hq with h1 | h1
    · refine ⟨fun hr => ?_, ?_, ?_⟩ <;> split <;> omega
    · have := S.is_lt h1.1
      refine ⟨fun hr => ?_, ?_, ?_⟩ <;> split <;> omega
  · exact h
theorem S.Ok.yield {s : S} (h : s.Ok) {c : Nat} {q : Q} (hq : s.cpus[c]? = some q) : (s.setQ c { q with left := 0 }).Ok := h.setLeft hq (by have := h.q1; omega)
/-- A priority, of a thread that is not ready. -/
theorem S.Ok.setPri {s : S} (h : s.Ok) {i : Nat} {t : T} (ht : s.thr[i]? = some t) (hst : t.st ≠ 1) {p : Int} (hp : 0 ≤ p ∧ p ≤ 7) : (s.setPri i p).Ok := by
  rw [setPri_modT ht]
  have hil := (List.getElem?_eq_some_iff.1 ht).1
  have hb := h.bd ht
  have his : ∀ x d st, (s.modT i { t with pri := p }).is x d st = s.is x d st := fun x d st => by
    simp only [S.is, S.modT, List.getElem?_set]
    by_cases e : i = x.toNat
    · rw [if_pos e, if_pos (by omega), ← e, ht]
    · rw [if_neg e]
  have hnr : ∀ (d : Nat) q, s.cpus[d]? = some q → ∀ x ∈ q.ready, x ≠ i := fun d q hd x hx e => by
    have := (is_cpu ((h.rdy d q hd).1 x hx) (e ▸ is_of ht)).2
    omega
  have hj : ∀ (j : Nat) t', (s.modT i { t with pri := p }).thr[j]? = some t' → ∃ t0, s.thr[j]? = some t0 ∧ t'.cpu = t0.cpu ∧ t'.st = t0.st ∧ 0 ≤ t'.pri ∧ t'.pri ≤ 7 := fun j t' hjt => by
    by_cases e : j = i
    · subst e
      rw [modT_get ht] at hjt
      cases hjt
      exact ⟨t, ht, rfl, rfl, hp⟩
    · simp only [S.modT, List.getElem?_set, if_neg (Ne.symm e)] at hjt
      have := h.bd hjt
      exact ⟨t', hjt, rfl, rfl, this.1, this.2.1⟩
  refine ⟨h.c1, h.c4, by simp [S.modT]; exact h.t16, h.q1, h.q20, ?_, ?_, ?_, ?_, ?_⟩
  · intro t' hm
    obtain ⟨j, hj', rfl⟩ := List.getElem_of_mem hm
    obtain ⟨t0, h0, e1, e2, h1, h2⟩ := hj j _ (List.getElem?_eq_getElem hj')
    have := h.bd h0
    refine ⟨h1, h2, ?_, ?_, ?_⟩
    · rw [e1]; exact this.2.2.1
    · rw [e1]; exact this.2.2.2.1
    · rw [e2]; exact this.2.2.2.2
  · intro d q hd
    exact (h.run d q hd).imp id fun h => ⟨by rw [his]; exact h.1, h.2⟩
  · intro d q hd
    obtain ⟨h1, h2, h3⟩ := h.rdy d q hd
    exact ⟨fun x hx => by rw [his]; exact h1 x hx, h2, pair_congr h3 fun x hx => modT_pri (hnr d q hd x hx) (S.is_lt (h1 x hx)).1⟩
  · intro j t' hjt hst'
    obtain ⟨t0, h0, e1, e2, _⟩ := hj j t' hjt
    rw [e1]
    exact h.allr j t0 h0 (by omega)
  · intro j t' hjt hst'
    obtain ⟨t0, h0, e1, e2, _⟩ := hj j t' hjt
    rw [e1]
    exact h.allrun j t0 h0 (by omega)
theorem S.Ok.rePri {s : S} (h : s.Ok) {i : Nat} {t : T} (ht : s.thr[i]? = some t) {p : Int} (hp : 0 ≤ p ∧ p ≤ 7) : (((s.take i).setPri i p).put i false).Ok := by
  have hb := h.bd ht
  have ht2 := take_get ht
  rw [setPri_modT ht2]
  exact ((h.take ht).modT (t := { t with pri := p }) ⟨hp.1, hp.2, hb.2.2.1, by rw [take_len]; exact hb.2.2.2.1⟩).put (modT_get ht2) false
theorem S.Ok.reCpu {s : S} (h : s.Ok) {i : Nat} {t : T} (ht : s.thr[i]? = some t) {c : Nat} (hc : c < s.cpus.length) : (((s.take i).setCpu i c).put i false).Ok := by
  have hb := h.bd ht
  have ht2 := take_get ht
  rw [setCpu_modT ht2]
  exact ((h.take ht).modT (t := { t with cpu := c }) ⟨hb.1, hb.2.1, by dsimp only; omega, by rw [take_len]; dsimp only; omega⟩).put (modT_get ht2) false
/-- The first one of a queue runs. -/
theorem S.Ok.fore {s : S} (h : s.Ok) {c : Nat} {x : Int} {l : List Int} (hq : s.cpus[c]? = some ⟨-1, 0, x :: l⟩) : (s.fore c).Ok := by
  have hlc := (List.getElem?_eq_some_iff.1 hq).1
  obtain ⟨g1, g2, g3⟩ := h.rdy c _ hq
  obtain ⟨i, t, rfl, ht, htc, hts⟩ := S.is_thr (g1 x (by simp))
  have hil := (List.getElem?_eq_some_iff.1 ht).1
  have hb := h.bd ht
  have hcc : t.cpu.toNat = c := by omega
  have hfore : s.fore c = (s.modT i { t with st := 2 }).setQ c { run := i, left := s.quantum, ready := l } := by
    simp only [S.fore, hq, Int.toNat_natCast]
    have : (s.setQ c { run := i, left := s.quantum, ready := l }).thr[i]? = some t := ht
    rw [setSt_modT this]
    rfl
  rw [hfore]
  have hB : ∀ x d st, x ≠ (i : Int) → s.is x d st = true → (s.modT i { t with st := 2 }).is x d st = true := fun x d st hne hx => by
    rw [modT_is hne _ _ (.inr (.inl hx))]; exact hx
  have hni : (i : Int) ∉ l := (List.nodup_cons.1 g2).1
  have other : ∀ (d : Nat) st, s.is i d st = true → d = c := fun d st hd => by
    have := (is_cpu hd (is_of ht)).1
    omega
  have hti : (s.modT i { t with st := 2 }).thr[i]? = some { t with st := 2 } := modT_get ht
  refine ⟨by simp [S.setQ, S.modT]; exact h.c1, by simp [S.setQ, S.modT]; exact h.c4, by simp [S.setQ, S.modT]; exact h.t16, h.q1, h.q20, ?_, ?_, ?_, ?_, ?_⟩
  · intro t' hm
    have hm : t' ∈ s.thr.set i { t with st := 2 } := hm
    rcases List.mem_or_eq_of_mem_set hm with hm | rfl
    · simpa [S.setQ, S.modT] using h.thr t' hm
    · simp [S.setQ, S.modT]
      exact ⟨hb.1, hb.2.1, hb.2.2.1, hb.2.2.2.1⟩
  · intro d q' hd
    rcases setQ_get hd with ⟨rfl, rfl⟩ | ⟨hne, hd⟩
    · refine .inr ⟨?_, by have := h.q1; simp; omega, by simp [S.setQ, S.modT]⟩
      rw [setQ_is, ← htc]
      exact is_of hti
    · exact (h.run d q' hd).imp id fun h => ⟨hB _ _ _ (fun e => hne (other d 2 (e ▸ h.1))) h.1, h.2⟩
  · intro d q' hd
    rcases setQ_get hd with ⟨rfl, rfl⟩ | ⟨hne, hd⟩
    · refine ⟨fun y hy => hB _ _ _ (fun e => hni (e ▸ hy)) (g1 y (by simp [hy])), (List.nodup_cons.1 g2).2, ?_⟩
      exact pair_congr (List.pairwise_cons.1 g3).2 fun y hy => by
        rw [setQ_pri]
        exact modT_pri (fun e => hni (e ▸ hy)) (S.is_lt (g1 y (by simp [hy]))).1
    · obtain ⟨h1, h2, h3⟩ := h.rdy d q' hd
      have hn : ∀ y ∈ q'.ready, y ≠ (i : Int) := fun y hy e => hne (other d 1 (e ▸ h1 y hy))
      exact ⟨fun y hy => hB _ _ _ (hn y hy) (h1 y hy), h2, pair_congr h3 fun y hy => by
        rw [setQ_pri]
        exact modT_pri (hn y hy) (S.is_lt (h1 y hy)).1⟩
  · intro j t' hjt hst
    by_cases e : j = i
    · subst e
      have hj2 : (s.modT j { t with st := 2 }).thr[j]? = some t' := hjt
      rw [hti] at hj2
      cases hj2
      simp at hst
    · have hjt' : s.thr[j]? = some t' := by
        simp only [S.setQ, S.modT, List.getElem?_set, if_neg (Ne.symm e)] at hjt
        exact hjt
      obtain ⟨q', hq', hm⟩ := h.allr j t' hjt' hst
      by_cases e2 : t'.cpu.toNat = c
      · rw [e2] at hq' ⊢
        rw [hq] at hq'
        cases hq'
        refine ⟨_, setQ_self hlc, ?_⟩
        rcases List.mem_cons.1 hm with h | h
        · omega
        · exact h
      · exact ⟨q', by rw [setQ_ne e2]; exact hq', hm⟩
  · intro j t' hjt hst
    by_cases e : j = i
    · subst e
      have hj2 : (s.modT j { t with st := 2 }).thr[j]? = some t' := hjt
      rw [hti] at hj2
      cases hj2
      simp only [hcc]
      exact ⟨_, setQ_self hlc, rfl⟩
    · have hjt' : s.thr[j]? = some t' := by
        simp only [S.setQ, S.modT, List.getElem?_set, if_neg (Ne.symm e)] at hjt
        exact hjt
      obtain ⟨q', hq', hm⟩ := h.allrun j t' hjt' hst
      by_cases e2 : t'.cpu.toNat = c
      · rw [e2] at hq'
        rw [hq] at hq'
        cases hq'
        simp at hm
        try omega
      · exact ⟨q', by rw [setQ_ne e2]; exact hq', hm⟩
/-- The state in which the running thread has gone back, with an idle processor. -/
def S.idle (s : S) (q : Q) : S := if 0 ≤ q.run then (s.take q.run.toNat).put q.run.toNat (decide (0 < q.left)) else s
theorem setQ_setQ (s : S) (c : Nat) (q q' : Q) : (s.setQ c q).setQ c q' = s.setQ c q' := by simp [S.setQ]
theorem S.Ok.idle {s : S} (h : s.Ok) {c : Nat} {q : Q} (hq : s.cpus[c]? = some q) : (s.idle q).Ok ∧ ∃ l, (s.idle q).cpus[c]? = some ⟨-1, 0, l⟩ ∧ (s.back q).cpus[c]? = some ⟨q.run, q.left, l⟩ ∧ s.back q = (s.idle q).setQ c ⟨q.run, q.left, l⟩ := by
  have hlc := (List.getElem?_eq_some_iff.1 hq).1
  unfold S.idle S.back
  by_cases hr : 0 ≤ q.run
  · rw [if_pos hr, if_pos hr]
    have h2 := (h.run c q hq).resolve_left (by omega)
    obtain ⟨i, t, hi, ht, htc, hts⟩ := S.is_thr h2.1
    have e : q.run.toNat = i := by omega
    have hcc : t.cpu.toNat = c := by omega
    have hq' : s.cpus[t.cpu.toNat]? = some q := by rw [hcc]; exact hq
    rw [e]
    refine ⟨(h.take ht).put (take_get ht) _, ?_⟩
    have hno : (i : Int) ∉ q.ready := fun hm => by
      have := (is_cpu ((h.rdy c q hq).1 i hm) (is_of ht)).2
      omega
    have hout : q.out i = ⟨-1, 0, q.ready⟩ := by simp [Q.out, hi, List.erase_of_not_mem hno]
    have htk : s.take i = s.setQ c ⟨-1, 0, q.ready⟩ := by rw [S.take_eq ht hq', hout, hcc]
    have ht2 : (s.setQ c ⟨-1, 0, q.ready⟩).thr[i]? = some t := ht
    have hq2 : (s.setQ c ⟨-1, 0, q.ready⟩).cpus[t.cpu.toNat]? = some ⟨-1, 0, q.ready⟩ := by rw [hcc]; exact setQ_self hlc
    have hbe : ∀ f, (s.setQ c ⟨-1, 0, q.ready⟩).below t.pri f = s.below t.pri f := fun f => rfl
    rw [htk, S.put_eq ht2 hq2, S.put_eq ht hq']
    refine ⟨ins q.ready (idxF (s.below t.pri (decide (0 < q.left))) q.ready 0) i, ?_, ?_, ?_⟩
    · simp [S.setQ, hcc, hlc, hbe]; rfl
    · simp [hcc, hlc]
    · simp [S.setQ, hcc, hbe]
  · rw [if_neg hr, if_neg hr]
    have h2 := (h.run c q hq)
    have h3 : q.run = -1 ∧ q.left = 0 := by
      rcases h2 with h | h
      · exact h
      · have := S.is_lt h.1; omega
    obtain ⟨run, left, l⟩ := q
    simp only at h3
    obtain ⟨rfl, rfl⟩ := h3
    exact ⟨h, l, hq, hq, by rw [S.setQ, List.set_getElem?_self' hq]⟩
theorem S.fore_setQ {s : S} {c : Nat} {r n : Int} {q : Q} (hq : s.cpus[c]? = some q) (hne : q.ready ≠ []) : (s.setQ c ⟨r, n, q.ready⟩).fore c = s.fore c := by
  have hlc := (List.getElem?_eq_some_iff.1 hq).1
  simp only [S.fore, setQ_self hlc, hq]
  cases hx : q.ready with
  | nil =>
    exact absurd hx hne
  | cons x l => simp only [setQ_setQ]; rfl
theorem S.Ok.sw {s : S} (h : s.Ok) (c : Nat) : (s.sw c).Ok := by
  unfold S.sw
  split
  · rename_i q hq
    split
    · rename_i hd
      obtain ⟨h1, l, h2, h3, h4⟩ := h.idle hq
      obtain ⟨q1, x, l1, hq1, hx, _⟩ := h.back hq hd
      rw [h3] at hq1
      cases hq1
      simp only at hx
      subst hx
      have := S.fore_setQ (r := q.run) (n := q.left) h2 (by simp)
      simp only at this
      rw [h4, this]
      exact h1.fore h2
    · split
      · rename_i hr
        exact h.setLeft hq (by have := h.q1; omega)
      · exact h
  · exact h
theorem S.Ok.steal {s : S} (h : s.Ok) {c : Nat} (hc : c < s.cpus.length) : (s.steal c).Ok := by
  unfold S.steal
  split
  · exact h
  · rename_i hl
    have hf : s.full < s.cpus.length := fullF_lt _ _ _ _ _ (by have := h.c1; omega) (by omega)
    obtain ⟨q, hq⟩ := at_lt hf
    have hlo : s.loadOf s.full = q.load := by simp only [S.loadOf, hq]
    obtain ⟨x, l, hx⟩ : ∃ x l, q.ready = x :: l := by
      refine List.exists_cons_of_length_pos ?_
      rw [hlo] at hl
      unfold Q.load at hl
      split at hl <;> omega
    have hfr : s.frontOf s.full = x := by simp only [S.frontOf, hq, hx]
    obtain ⟨i, t, rfl, ht, _⟩ := S.is_thr ((h.rdy _ q hq).1 x (by simp [hx]))
    rw [hfr]
    exact h.reCpu ht hc
end Go.Proofs.Ytljepmbikbdicaa

set_option maxRecDepth 100000
set_option linter.unusedVariables false
set_option linter.unusedSimpArgs false
namespace Go.Proofs.Ytljepmbikbdicaa
open Go.AM
theorem S.due_eq {s : S} {c : Nat} {q : Q} (hq : s.cpus[c]? = some q) : s.due c = match q.ready with
    | [] => false
    | x :: _ => if q.run = -1 then true else decide (s.pri x > s.pri q.run) || decide (q.left = 0 ∧ s.pri x ≥ s.pri q.run) := by
  simp only [S.due, hq]
  cases q.ready <;> rfl
/-- The thread at the front has the greatest priority of its queue. -/
theorem S.Ok.top {s : S} (h : s.Ok) {c : Nat} {q : Q} {x : Int} {l : List Int} (hq : s.cpus[c]? = some q) (hx : q.ready = x :: l) : ∀ y ∈ q.ready, s.pri y ≤ s.pri x := by
  have := (h.rdy c q hq).2.2
  rw [hx, List.pairwise_cons] at this
  intro y hy
  rw [hx] at hy
  rcases List.mem_cons.1 hy with rfl | hy
  · exact Int.le_refl _
  · exact this.1 y hy
/-- No switch is due. -/
theorem S.Ok.calm {s : S} (h : s.Ok) {c : Nat} {q : Q} (hq : s.cpus[c]? = some q) (hd : s.due c = false) : (q.run = -1 → q.ready = []) ∧ (q.run ≠ -1 → ∀ y ∈ q.ready, s.pri y ≤ s.pri q.run) := by
  rw [S.due_eq hq] at hd
  cases hx : q.ready with
  | nil => exact ⟨fun _ => rfl, fun _ y hy => by cases hy⟩
  | cons x l =>
    rw [hx] at hd
    by_cases hr : q.run = -1
    · simp [hr] at hd
    · refine ⟨fun h => absurd h hr, fun _ y hy => ?_⟩
      simp only [if_neg hr, Bool.or_eq_false_iff, decide_eq_false_iff_not] at hd
      have := h.top hq hx y (by rw [hx]; exact hy)
      omega
theorem S.Ok.fore_at {s : S} (h : s.Ok) {c : Nat} {x : Int} {l : List Int} (hq : s.cpus[c]? = some ⟨-1, 0, x :: l⟩) : ∃ (i : Nat) (t : T), x = i ∧ s.thr[i]? = some t ∧ t.cpu = c ∧ t.st = 1 ∧ s.fore c = (s.modT i { t with st := 2 }).setQ c ⟨x, s.quantum, l⟩ := by
  obtain ⟨g1, g2, g3⟩ := h.rdy c _ hq
  obtain ⟨i, t, rfl, ht, htc, hts⟩ := S.is_thr (g1 x (by simp))
  refine ⟨i, t, rfl, ht, htc, hts, ?_⟩
  simp only [S.fore, hq, Int.toNat_natCast]
  have : (s.setQ c { run := i, left := s.quantum, ready := l }).thr[i]? = some t := ht
  rw [setSt_modT this]
  rfl
theorem modSt_pri {s : S} {i : Nat} {t : T} (ht : s.thr[i]? = some t) (st x : Int) : (s.modT i { t with st := st }).pri x = s.pri x := S.pri_st ht x
/-- A switch that is due. -/
theorem S.Ok.sw_due {s : S} (h : s.Ok) {c : Nat} {q : Q} (hq : s.cpus[c]? = some q) (hd : s.due c = true) : ∃ (x : Int) (l : List Int), (s.idle q).cpus[c]? = some ⟨-1, 0, x :: l⟩ ∧ s.sw c = (s.idle q).fore c := by
  obtain ⟨h1, l, h2, h3, h4⟩ := h.idle hq
  obtain ⟨q1, x, l1, hq1, hx, _⟩ := h.back hq hd
  rw [h3] at hq1
  cases hq1
  simp only at hx
  subst hx
  have := S.fore_setQ (r := q.run) (n := q.left) h2 (by simp)
  simp only at this
  refine ⟨x, l1, h2, ?_⟩
  simp only [S.sw, hq, if_pos hd, h4, this]
/-- Behind a switch none is due, and the running thread has the greatest priority. -/
theorem S.Ok.high {s : S} (h : s.Ok) {c : Nat} (hc : c < s.cpus.length) : (s.sw c).Ok ∧ (s.sw c).due c = false ∧ ∃ q', (s.sw c).cpus[c]? = some q' := by
  obtain ⟨q, hq⟩ := at_lt hc
  refine ⟨h.sw c, ?_⟩
  by_cases hd : s.due c = true
  · obtain ⟨x, l, h2, h3⟩ := h.sw_due hq hd
    have h1 := (h.idle hq).1
    obtain ⟨i, t, rfl, ht, htc, hts, h4⟩ := h1.fore_at h2
    have hlc := (List.getElem?_eq_some_iff.1 h2).1
    rw [h3, h4]
    have hg : (((s.idle q).modT i { t with st := 2 }).setQ c ⟨i, (s.idle q).quantum, l⟩).cpus[c]? = some ⟨i, (s.idle q).quantum, l⟩ := setQ_self hlc
    refine ⟨?_, _, hg⟩
    rw [S.due_eq hg]
    cases l with
    | nil => rfl
    | cons y l =>
      simp only
      rw [if_neg (by omega)]
      have := h1.top h2 rfl y (by simp)
      have hq1 := h1.q1
      simp only [setQ_pri, modSt_pri ht, Bool.or_eq_false_iff, decide_eq_false_iff_not]
      omega
  · have hd' : s.due c = false := by simpa using hd
    have hsw : s.sw c = if 0 ≤ q.run ∧ q.left = 0 then s.setQ c { q with left := s.quantum } else s := by simp only [S.sw, hq, if_neg hd]
    rw [hsw]
    split
    · rename_i hr
      have hg : (s.setQ c { q with left := s.quantum }).cpus[c]? = some { q with left := s.quantum } := setQ_self hc
      refine ⟨?_, _, hg⟩
      rw [S.due_eq hg]
      have hcalm := (h.calm hq hd').2 (by omega)
      cases hx : q.ready with
      | nil => rfl
      | cons y l =>
        simp only
        rw [if_neg (by omega)]
        have := hcalm y (by simp [hx])
        have hq1 := h.q1
        simp only [setQ_pri, Bool.or_eq_false_iff, decide_eq_false_iff_not]
        exact ⟨decide_eq_false (by omega), decide_eq_false (by omega)⟩
    · exact ⟨hd', q, hq⟩
end Go.Proofs.Ytljepmbikbdicaa

set_option maxRecDepth 100000
set_option linter.unusedVariables false
set_option linter.unusedSimpArgs false
namespace Go.Proofs.Ytljepmbikbdicaa
open Go.AM
theorem S.Ok.swap {s : S} (h : s.Ok) {c : Nat} {q : Q} (hq : s.cpus[c]? = some q) (hd : s.due c = true) (hr : q.run ≠ -1) :
    ∃ (i : Nat) (t : T) (a b : List Int) (x : Int), q.run = i ∧ s.thr[i]? = some t ∧ t.cpu = c ∧ q.ready = x :: a ++ b ∧ (s.sw c).cpus[c]? = some ⟨x, s.quantum, a ++ (i : Int) :: b⟩ ∧ (∀ y, (s.sw c).pri y = s.pri y) ∧ (s.sw c).quantum = s.quantum ∧ (s.sw c).cpus.length = s.cpus.length ∧
      (∀ y ∈ x :: a, s.below t.pri (decide (0 < q.left)) y = false) ∧ (∀ y m, b = y :: m → s.below t.pri (decide (0 < q.left)) y = true) ∧ (∀ d, d ≠ c → (s.sw c).cpus[d]? = s.cpus[d]?) ∧ ∃ j tj, x = (j : Nat) ∧ s.thr[j]? = some tj ∧ j ≠ i ∧ (s.sw c).thr = (s.thr.set i { t with st := 1 }).set j { tj with st := 2 } := by
  have h2 := (h.run c q hq).resolve_left (by omega)
  obtain ⟨i, t, hi, ht, htc, hts⟩ := S.is_thr h2.1
  have hcc : t.cpu.toNat = c := by omega
  have hq' : s.cpus[t.cpu.toNat]? = some q := by rw [hcc]; exact hq
  have hpi : s.pri i = t.pri := by simp [S.pri, ht]
  have hno : (i : Int) ∉ q.ready := fun hm => by
    have := (is_cpu ((h.rdy c q hq).1 i hm) (is_of ht)).2
    omega
  obtain ⟨x, l, g1, g2⟩ := h.sw_due hq hd
  have hidle := (h.idle hq).1
  -- the queue with the thread in it
  have e0 : q.run.toNat = i := by omega
  have hidq : s.idle q = (s.take i).put i (decide (0 < q.left)) := by rw [S.idle, if_pos (by omega), e0]
  have hout : q.out i = ⟨-1, 0, q.ready⟩ := by simp [Q.out, hi, List.erase_of_not_mem hno]
  have htk : s.take i = s.setQ c ⟨-1, 0, q.ready⟩ := by rw [S.take_eq ht hq', hout, hcc]
  have hlc : c < s.cpus.length := (List.getElem?_eq_some_iff.1 hq).1
  have ht2 : (s.setQ c ⟨-1, 0, q.ready⟩).thr[i]? = some t := ht
  have hq2 : (s.setQ c ⟨-1, 0, q.ready⟩).cpus[t.cpu.toNat]? = some ⟨-1, 0, q.ready⟩ := by rw [hcc]; exact setQ_self hlc
  have hbe : ∀ f, (s.setQ c ⟨-1, 0, q.ready⟩).below t.pri f = s.below t.pri f := fun f => rfl
  obtain ⟨a, b, hab, hins, ha, hb⟩ := ins_idxF (s.below t.pri (decide (0 < q.left))) q.ready i
  have hput : s.idle q = { s with thr := s.thr.set i { t with st := 1 }, cpus := (s.setQ c ⟨-1, 0, q.ready⟩).cpus.set c ⟨-1, 0, a ++ (i : Int) :: b⟩ } := by
    rw [hidq, htk, S.put_eq ht2 hq2, hbe, hcc]
    simp only [hins]
    rfl
  have hcl : (s.idle q).cpus[c]? = some ⟨-1, 0, a ++ (i : Int) :: b⟩ := by rw [hput]; simp [S.setQ, hlc]
  rw [g1] at hcl
  have hxl : x :: l = a ++ (i : Int) :: b := by
    have := Option.some.inj hcl
    injection this
  -- the front is not the thread
  obtain ⟨y, m, hy⟩ := S.due_ready hq hd
  have hdue := S.due_eq hq
  rw [hd, hy] at hdue
  simp only [if_neg hr] at hdue
  have hane : a ≠ [] := by
    intro e
    subst e
    rw [hy] at hab
    have h1 := hb y m (by simpa using hab.symm)
    simp [S.below] at h1
    have h3 := hdue.symm
    simp at h3
    rw [hi, hpi] at h3
    omega
  obtain ⟨x', a', rfl⟩ := List.exists_cons_of_ne_nil hane
  simp only [List.cons_append, List.cons.injEq] at hxl
  obtain ⟨rfl, rfl⟩ := hxl
  have hmem : ∀ z, z ∈ x :: a' ∨ z ∈ b → z ∈ q.ready := fun z hz => by rw [hab]; simp only [List.mem_append]; exact hz
  have hthr : (s.idle q).thr = s.thr.set i { t with st := 1 } := by rw [hput]
  have hqu : (s.idle q).quantum = s.quantum := by rw [hput]
  have hpr1 : ∀ z, (s.idle q).pri z = s.pri z := fun z => by
    have : (s.idle q).pri z = (s.modT i { t with st := 1 }).pri z := by simp only [S.pri, hthr, S.modT]
    rw [this, modSt_pri ht]
  obtain ⟨j, tj, hj, htj, _, _, hfore⟩ := hidle.fore_at g1
  have hji : j ≠ i := by
    intro e
    have : x ∈ q.ready := hmem x (by simp)
    rw [hj, e] at this
    exact hno this
  have htj' : s.thr[j]? = some tj := by
    rw [hthr, List.getElem?_set, if_neg (Ne.symm hji)] at htj
    exact htj
  refine ⟨i, t, a', b, x, hi, ht, htc, hab, ?_, ?_, ?_, ?_, ha, hb, ?_, j, tj, hj, htj', hji, ?_⟩
  · rw [g2, hfore, hqu]
    exact setQ_self (by rw [hput]; simp [S.setQ, S.modT, hlc])
  · intro z
    rw [g2, hfore, setQ_pri, modSt_pri htj, hpr1]
  · rw [g2, hfore]; exact hqu
  · rw [g2, hfore, hput]; simp [S.setQ, S.modT]
  · intro d hdc
    rw [g2, hfore, setQ_ne hdc]
    show (s.idle q).cpus[d]? = _
    rw [hput]
    simp only [S.setQ, List.getElem?_set, if_neg (Ne.symm hdc)]
  · rw [g2, hfore]
    show (s.idle q).thr.set j _ = _
    rw [hthr]
end Go.Proofs.Ytljepmbikbdicaa

set_option maxRecDepth 100000
set_option linter.unusedVariables false
set_option linter.unusedSimpArgs false
namespace Go.Proofs.Ytljepmbikbdicaa
open Go.AM
def mx1 (l : Int) : Int := if l < 1 then 1 else l
/-- How many ticks it takes until a thread runs. -/
def S.Waits (u : S) (c : Nat) (thr p bud : Int) : Prop := ∃ q, u.cpus[c]? = some q ∧ (q.run = thr ∨ ∃ a b, q.ready = a ++ thr :: b ∧ q.run ≠ -1 ∧ u.pri q.run ≤ p ∧ (∀ y ∈ a, u.pri y = p) ∧ u.pri thr = p ∧ (if u.pri q.run = p then mx1 q.left else 1) + a.length * u.quantum ≤ bud)
theorem S.tick_eq {s : S} {c : Nat} {q : Q} (hq : s.cpus[c]? = some q) : s.tick c = s.setQ c { q with left := if 0 > q.left - 1 then 0 else q.left - 1 } := by simp only [S.tick, hq]
/-- A tick, and a switch if one is due. -/
def S.beat (u : S) (c : Nat) : S := if (u.tick c).due c = true then (u.tick c).sw c else u.tick c
theorem S.Ok.waits {u : S} (h : u.Ok) {c : Nat} {thr p bud : Int} (hw : u.Waits c thr p bud) (hn : u.runOf c ≠ thr) : (u.beat c).Ok ∧ (u.beat c).cpus.length = u.cpus.length ∧ (u.beat c).quantum = u.quantum ∧ (u.beat c).Waits c thr p (bud - 1) := by
  obtain ⟨q, hq, hcase⟩ := hw
  have hro : u.runOf c = q.run := by simp only [S.runOf, hq]
  rw [hro] at hn
  obtain ⟨a, b, hab, hr, hpr, hpa, hpt, hbud⟩ := hcase.resolve_left hn
  have hlc : c < u.cpus.length := (List.getElem?_eq_some_iff.1 hq).1
  have hq1 := h.q1
  have hrun := (h.run c q hq).resolve_left (fun e => hr e.1)
  -- behind the tick
  have ht := S.tick_eq hq
  generalize hl' : (if 0 > q.left - 1 then 0 else q.left - 1) = l' at ht
  have hok := h.tick c
  have hqv : (u.tick c).cpus[c]? = some { q with left := l' } := by rw [ht]; exact setQ_self hlc
  have hprv : ∀ y, (u.tick c).pri y = u.pri y := fun y => by rw [ht]; rfl
  have hquv : (u.tick c).quantum = u.quantum := by rw [ht]; rfl
  have hclv : (u.tick c).cpus.length = u.cpus.length := by rw [ht]; simp [S.setQ]
  obtain ⟨f, m, hfm⟩ : ∃ f m, q.ready = f :: m := by cases a with
    | nil => exact ⟨thr, b, by rw [hab]; rfl⟩
    | cons f a => exact ⟨f, a ++ thr :: b, by rw [hab]; rfl⟩
  have hpf : u.pri f = p := by
    rw [hfm] at hab
    cases a with
    | nil => simp at hab; rw [hab.1]; exact hpt
    | cons g a => simp at hab; rw [hab.1]; exact hpa g (by simp)
  have hdue : (u.tick c).due c = (decide (p > u.pri q.run) || decide (l' = 0 ∧ p ≥ u.pri q.run)) := by
    rw [S.due_eq hqv]
    simp only [hfm, if_neg hr, hprv, hpf]
  unfold S.beat
  by_cases hd : (u.tick c).due c = true
  · rw [if_pos hd]
    obtain ⟨i, t, a', b', x, hi, hti, htc, hrd, hcx, hpw, hqw, hlw, hA, hB, _⟩ := hok.swap hqv hd hr
    simp only at hi hrd hA hB
    refine ⟨hok.sw c, by rw [hlw, hclv], by rw [hqw, hquv], ⟨x, (u.tick c).quantum, a' ++ (i : Int) :: b'⟩, hcx, ?_⟩
    have hpi : u.pri q.run = t.pri := by
      have : (u.tick c).pri i = t.pri := by simp [S.pri, hti]
      rw [hi, ← hprv, this]
    rw [hdue] at hd
    -- the thread is ahead of the place
    have hthr : thr ∈ x :: a' := by
      have hm : thr ∈ x :: a' ++ b' := by rw [← hrd, hab]; simp
      rcases List.mem_append.1 hm with hm | hm
      · exact hm
      · exfalso
        cases b' with
        | nil => cases hm
        | cons y m' =>
          have hby := hB y m' rfl
          simp only [S.below, Bool.or_eq_true, decide_eq_true_eq, Bool.and_eq_true, hprv] at hby hd
          have hle : u.pri thr ≤ u.pri y := by
            have hs := (h.rdy c q hq).2.2
            rw [hrd, List.pairwise_append] at hs
            rcases List.mem_cons.1 hm with rfl | hm
            · exact Int.le_refl _
            · exact (List.pairwise_cons.1 hs.2.1).1 thr hm
          omega
    cases a with
    | nil =>
      left
      rw [hab] at hrd
      simp only [List.nil_append, List.cons_append, List.cons.injEq] at hrd
      exact hrd.1.symm
    | cons z a2 =>
      right
      rw [hab] at hrd
      simp only [List.cons_append, List.cons.injEq] at hrd
      obtain ⟨rfl, hrest⟩ := hrd
      have hnd := (h.rdy c q hq).2.1
      rw [hab] at hnd
      have hzt : thr ≠ z := fun e => by
        subst e
        simp at hnd
      have hta : thr ∈ a' := (List.mem_cons.1 hthr).resolve_left hzt
      have hta2 : thr ∉ a2 := fun hm => by
        simp only [List.cons_append, List.nodup_cons, List.nodup_append, List.mem_cons] at hnd
        exact hnd.2.2.2 thr hm thr (.inl rfl) rfl
      -- a' = a2 ++ thr :: b3
      obtain ⟨b3, hb3⟩ : ∃ b3, a' = a2 ++ thr :: b3 := by
        have key : ∀ (a2 b a' b' : List Int), a2 ++ thr :: b = a' ++ b' → thr ∈ a' → thr ∉ a2 → ∃ b3, a' = a2 ++ thr :: b3 := by
          intro a2
          induction a2 with
          | nil =>
            intro b a' b' he hm _
            cases a' with
            | nil => cases hm
            | cons y a' => simp at he; exact ⟨a', by rw [he.1]; rfl⟩
          | cons y a2 ih =>
            intro b a' b' he hm hno
            cases a' with
            | nil => cases hm
            | cons w a' =>
              simp only [List.cons_append, List.cons.injEq] at he
              have hne : thr ≠ w := fun e => hno (by rw [he.1, ← e]; simp)
              obtain ⟨b3, hb3⟩ := ih b a' b' he.2 ((List.mem_cons.1 hm).resolve_left hne) (fun h => hno (by simp [h]))
              exact ⟨b3, by rw [hb3, he.1]; rfl⟩
        exact key a2 b a' b' hrest hta hta2
      refine ⟨a2, b3 ++ (i : Int) :: b', by rw [hb3]; simp, ?_, ?_, ?_, ?_, ?_⟩
      · have := (S.is_lt ((h.rdy c q hq).1 z (by rw [hab]; simp))).1
        simp only
        omega
      · rw [hpw, hprv]; exact Int.le_of_eq (hpa z (by simp))
      · intro y hy
        rw [hpw, hprv]; exact hpa y (by simp [hy])
      · rw [hpw, hprv]; exact hpt
      · have hzp : ((u.tick c).sw c).pri z = p := by rw [hpw, hprv]; exact hpa z (by simp)
        simp only [hzp, if_true, hqw, hquv]
        rw [List.length_cons, Int.natCast_add, Int.add_mul] at hbud
        have h1 : mx1 u.quantum = u.quantum := by unfold mx1; rw [if_neg (by omega)]
        have h2 : 1 ≤ (if u.pri q.run = p then mx1 q.left else 1) := by
          unfold mx1
          split <;> (try split) <;> omega
        rw [h1]
        omega
  · rw [if_neg hd]
    refine ⟨hok, hclv, hquv, _, hqv, .inr ⟨a, b, hab, hr, by rw [hprv]; exact hpr, fun y hy => by rw [hprv]; exact hpa y hy, by rw [hprv]; exact hpt, ?_⟩⟩
    rw [hdue] at hd
    simp only [Bool.or_eq_true, decide_eq_true_eq] at hd
    have hpe : u.pri q.run = p := by omega
    simp only [hprv, hquv, if_pos hpe] at hbud ⊢
    unfold mx1 at hbud ⊢
    split at hbud <;> split at hl' <;> split <;> omega
end Go.Proofs.Ytljepmbikbdicaa

set_option maxRecDepth 100000
set_option linter.unusedVariables false
set_option linter.unusedSimpArgs false
namespace Go.Proofs.Ytljepmbikbdicaa
open Go.AM
theorem S.not_valid {s : S} (h : ¬ s.valid = true) : s.valid = false := by simpa using h
/-- What an operation of a processor returns: an error. -/
theorem S.res_cp {s : S} {n : Int} {f : S} (hv : s.valid = true) (hc : s.cp n = none) : s.res ((s.cp n).map fun _ => f) 52 = (S.zero, 52) := by rw [hc]; exact S.res_no hv rfl
theorem S.res_cq {s : S} {n : Int} {q : Q} {f : S} (hv : s.valid = true) (hc : s.cp n = some q) : s.res ((s.cp n).map fun _ => f) 52 = (f, 0) := by rw [hc]; exact S.res_ok hv rfl
theorem Switch_bad {s : S} {n : Int} (hv : s.valid = false) : ACalls Try.prog 14 [s.av, iv n] [] (fun o H => o = .ret (.tuple [S.zero.av, iv 0, iv 50]) ∧ H = []) := Switch_i (S.res_bad hv) (by simp [hv])
theorem Switch_none {s : S} {n : Int} (hv : s.valid = true) (hc : s.cp n = none) : ACalls Try.prog 14 [s.av, iv n] [] (fun o H => o = .ret (.tuple [S.zero.av, iv 0, iv 52]) ∧ H = []) := Switch_i (S.res_cp hv hc) (by simp [hc])
theorem Switch_some {s : S} {c : Nat} {q q' : Q} (hv : s.valid = true) (hq : s.cpus[c]? = some q) (hq' : (s.sw c).cpus[c]? = some q') : ACalls Try.prog 14 [s.av, iv c] [] (fun o H => o = .ret (.tuple [(s.sw c).av, iv q'.run, iv 0]) ∧ H = []) := by
  have hc : s.cp c = some q := by simp [S.cp, hq]
  exact Switch_i (by rw [S.res_cq hv hc]; rfl) (by rw [if_pos hv, hc]; simp [S.runOf, hq'])
theorem Tick_bad {s : S} {n : Int} (hv : s.valid = false) : ACalls Try.prog 17 [s.av, iv n] [] (fun o H => o = .ret (.tuple [S.zero.av, .bool false, iv 50]) ∧ H = []) := Tick_i (S.res_bad hv) (by simp [hv])
theorem Tick_none {s : S} {n : Int} (hv : s.valid = true) (hc : s.cp n = none) : ACalls Try.prog 17 [s.av, iv n] [] (fun o H => o = .ret (.tuple [S.zero.av, .bool false, iv 52]) ∧ H = []) := Tick_i (S.res_cp hv hc) (by simp [hc])
theorem Tick_some {s : S} {c : Nat} {q : Q} (hv : s.valid = true) (hq : s.cpus[c]? = some q) : ACalls Try.prog 17 [s.av, iv c] [] (fun o H => o = .ret (.tuple [(s.tick c).av, .bool ((s.tick c).due c), iv 0]) ∧ H = []) := by
  have hc : s.cp c = some q := by simp [S.cp, hq]
  exact Tick_i (by rw [S.res_cq hv hc]; rfl) (by rw [if_pos hv, hc]; simp)
theorem Due_some {s : S} {c : Nat} {q : Q} (hv : s.valid = true) (hq : s.cpus[c]? = some q) : ACalls Try.prog 15 [s.av, iv c] [] (fun o H => o = .ret (.bool (s.due c)) ∧ H = []) := by
  have hc : s.cp c = some q := by simp [S.cp, hq]
  exact Due_i (by rw [S.rDue, if_pos hv, hc]; simp)
end Go.Proofs.Ytljepmbikbdicaa

set_option maxRecDepth 100000
set_option linter.unusedVariables false
set_option linter.unusedSimpArgs false
namespace Go.Proofs.Ytljepmbikbdicaa
open Go.AM
open Go.ChangeShapes Go.WideShapes Go.ChangeAt Go.RowKit
theorem cells_ready : Try.prog.cellsOf 3 = 1 := by kernel_rfl
theorem cells_cpuq : Try.prog.cellsOf 32 = 3 := by kernel_rfl
theorem cells_slot : Try.prog.cellsOf 35 = 3 := by kernel_rfl
theorem sh_int {xs : List AV} (h : Sh Try.prog 3 xs) : ∃ n, wkL xs = r1 n := by
  obtain ⟨n, rfl, _⟩ := h.int_inv Try.underlying3
  exact ⟨n, rfl⟩
theorem sh_ints {xs : List AV} (h : Sh Try.prog 30 xs) : ∃ l : List Int, wkL xs = [.view false 1 (l.map r1)] := by
  obtain ⟨f, rows, rfl, _, hr⟩ := h.slice_inv Try.underlying30
  obtain ⟨l, hl⟩ := Sh.rows (f := r1) (fun row hrow => sh_int hrow) hr
  exact ⟨l, by rw [cells_ready]; simp [wkL, AV.wk, hl]⟩
theorem flat3 {xss : List (List AV)} (h : xss.length = 3) : ∃ a b c, xss = [a, b, c] := by
  match xss, h with
  | [a, b, c], _ => exact ⟨a, b, c, rfl⟩
theorem wkL_app : ∀ (a b : List AV), wkL (a ++ b) = wkL a ++ wkL b
  | [], b => rfl
  | x :: a, b => by simp [wkL, wkL_app a b]
theorem sh_cpuq {xs : List AV} (h : Sh Try.prog 32 xs) : ∃ q : Q, wkL xs = q.row := by
  obtain ⟨xss, rfl, hn, hp⟩ := h.struct_inv Try.underlying32
  obtain ⟨a, b, c, rfl⟩ := flat3 hn
  obtain ⟨r, hr⟩ := sh_int (hp 0 _ a rfl rfl)
  obtain ⟨l, hl⟩ := sh_int (hp 1 _ b rfl rfl)
  obtain ⟨rd, hrd⟩ := sh_ints (hp 2 _ c rfl rfl)
  exact ⟨⟨r, l, rd⟩, by simp [wkL_app, hr, hl, hrd, Q.row, r1]⟩
theorem sh_slot {xs : List AV} (h : Sh Try.prog 35 xs) : ∃ t : T, wkL xs = t.row := by
  obtain ⟨xss, rfl, hn, hp⟩ := h.struct_inv Try.underlying35
  obtain ⟨a, b, c, rfl⟩ := flat3 hn
  obtain ⟨r, hr⟩ := sh_int (hp 0 _ a rfl rfl)
  obtain ⟨l, hl⟩ := sh_int (hp 1 _ b rfl rfl)
  obtain ⟨c', hc⟩ := sh_int (hp 2 _ c rfl rfl)
  exact ⟨⟨r, l, c'⟩, by simp [wkL_app, hr, hl, hc, T.row, r1]⟩
theorem sh_sched {xs : List AV} (h : Sh Try.prog 25 xs) : ∃ s : S, (AV.agg xs).wk = s.av := by
  obtain ⟨xss, rfl, hn, hp⟩ := h.struct_inv Try.underlying25
  obtain ⟨a, b, c, rfl⟩ := flat3 hn
  obtain ⟨f1, r1', h1, _, hr1⟩ := (hp 0 _ a rfl rfl).slice_inv Try.underlying22
  obtain ⟨f2, r2', h2, _, hr2⟩ := (hp 1 _ b rfl rfl).slice_inv Try.underlying23
  obtain ⟨l1, hl1⟩ := Sh.rows (f := Q.row) (fun row hrow => sh_cpuq hrow) hr1
  obtain ⟨l2, hl2⟩ := Sh.rows (f := T.row) (fun row hrow => sh_slot hrow) hr2
  obtain ⟨n, hn'⟩ := sh_int (hp 2 _ c rfl rfl)
  subst h1 h2
  refine ⟨⟨l1, l2, n⟩, ?_⟩
  simp [AV.wk, wkL_app, wkL, hl1, hl2, hn', S.av, cells_cpuq, cells_slot, r1]
/-- A structure that reads. -/
theorem read_agg {H : Type} {enc : TypeId × Value → H} {P : Program} {w : World} {t : TypeId} {fs : Array Field} {v : Value} {d : DataW H} {p : List MemPlace} {base : Nat} (m : Nat) (ht : P.underlying t = some (.struct fs)) (hp : plainB P m t = true)
    (hv : Value.okWide P w .any base t v) (h : DataW.Trod enc P w 0 (fun _ => true) true t v d p) : ∃ xs, VR (snapAll w) noEnv (.agg xs) v ∧ Sh P t xs := by
  unfold Value.okWide at hv
  rw [ht] at hv
  obtain ⟨cs, rfl, _⟩ := hv
  obtain ⟨n, hn⟩ := h
  obtain ⟨xs, h1, h2⟩ := read_trod m t hp n _ _ hn
  have hlen : xs.length = cs.size := by rw [h1.1]; simp [Value.cells]
  refine ⟨xs, .agg _ _ _ hlen.symm fun k x y hx hy => ?_, h2⟩
  exact (h1.2 k x y hx (by simpa [Value.cells] using hy)).1
theorem read_sched {H : Type} {enc : TypeId × Value → H} {w : World} {v : Value} {d : DataW H} {p : List MemPlace} {base : Nat} (hv : Value.okWide Try.prog w .any base 25 v)
    (h : DataW.Trod enc Try.prog w 0 (fun _ => true) true 25 v d p) : ∃ s : S, VR (snapAll w) noEnv s.av v := by
  obtain ⟨xs, h1, h2⟩ := read_agg 5 Try.underlying25 (by kernel_rfl) hv h
  obtain ⟨s, hs⟩ := sh_sched h2
  exact ⟨s, hs ▸ h1.wk⟩
theorem read_int {H : Type} {enc : TypeId × Value → H} {w : World} {v : Value} {d : DataW H} {p : List MemPlace} {base : Nat} (hv : Value.okWide Try.prog w .any base 3 v)
    (h : DataW.Trod enc Try.prog w 0 (fun _ => true) true 3 v d p) : ∃ n : Int, VR (snapAll w) noEnv (iv n) v ∧ (Lit.int .i64 n).wf = true := by
  obtain ⟨n, rfl, _, _, hw⟩ := open_int Try.underlying3 hv h
  exact ⟨n, .int _ _ _, hw⟩
theorem lout : laidOutB Try.prog = true := by kernel_rfl
theorem rd_sched : Try.prog.readableRec 25 = true ∧ 25 < Try.prog.types.size := ⟨by kernel_rfl, of_decide_eq_true (by kernel_rfl)⟩
theorem rd_int : Try.prog.readableRec 3 = true ∧ 3 < Try.prog.types.size := ⟨by kernel_rfl, of_decide_eq_true (by kernel_rfl)⟩
end Go.Proofs.Ytljepmbikbdicaa
