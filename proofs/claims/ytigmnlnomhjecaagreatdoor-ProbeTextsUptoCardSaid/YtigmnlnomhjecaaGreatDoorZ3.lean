/- Texts joined, without what is not needed. No condition. -/
import Derived.Test.YtigmnlnomhjecaaGreatDoorZ2
import Derived.Recover
import Derived.ChangeArms
import Derived.OpenShut
import Derived.WalkKit
import Derived.ProofKit
import Derived.WideKeyArgs
import Derived.Conc.LoneCalls
set_option linter.unusedVariables false
set_option linter.unusedSimpArgs false
namespace Go.AM
section
variable {P : Program} {ops : Array Oper} {d : Option Tmp} {dd : Tmp} {op : Op} {ty t : TypeId} {pos : String} {af : Array Edge} {rest : List Oper} {Q : XQ} {s : Ch} {H H' : Heap} {j : Nat} {want : Bool} {v x : AV} {b : Blk} {n : Nat} {D : Fx} {p : Pl} {pl : List Pl} {hs : List Heap} {pd : List Pd} {lo hi k : Nat} {r : AR} {y : Operand} {h : Heap} {rd : Rd}
def dN (P : Program) (ops : Array Oper) (op : Op) (p : Pl) (d : Option Tmp) (rest : List Oper) (pl : List Pl) (Q : XQ) (s : Ch) (H : Heap) (hs : List Heap) (pd : List Pd) : Prop :=
  dBody P op p s H hs pd fun v H' hs' pd' => dwp P ops rest pl Q (s.put? d v) H' hs' pd'
def dSk (P : Program) (ops : Array Oper) (p : Pl) (d : Option Tmp) (rest : List Oper) (pl : List Pl) (Q : XQ) (s : Ch) (H : Heap) (hs : List Heap) (pd : List Pd) : Prop :=
  dSkip P p H hs pd fun v H' hs' pd' => dwp P ops rest pl Q (s.put? d v) H' hs' pd'
def dG (P : Program) (ops : Array Oper) (v : AV) (want : Bool) (op : Op) (p : Pl) (d : Option Tmp) (rest : List Oper) (pl : List Pl) (Q : XQ) (s : Ch) (H : Heap) (hs : List Heap) (pd : List Pd) : Prop :=
  gk v want (dN P ops op p d rest pl Q s H hs pd) (dSk P ops p d rest pl Q s H hs pd)
def dQ (P : Program) (ops : Array Oper) (r : AR) (d : Option Tmp) (rest : List Oper) (pl : List Pl) (Q : XQ) (s : Ch) (H : Heap) (hs : List Heap) (pd : List Pd) : Prop :=
  ∃ v, (∀ H2, r.yields P H2 v) ∧ dwp P ops rest pl Q (s.put? d v) H hs pd
def dR (P : Program) (ops : Array Oper) (rd : Rd) (r : AR) (lo hi : Nat) (d : Option Tmp) (rest : List Oper) (pl : List Pl) (Q : XQ) (s : Ch) (H : Heap) (hs : List Heap) (pd : List Pd) : Prop :=
  ∃ v, r.yields P H v ∧ eOk P rd v (hs.drop lo) ∧ dwp P ops rest pl Q (s.put? d v) H hs (⟨rd, v, hi⟩ :: pd)
def dM (P : Program) (ops : Array Oper) (r : AR) (k : Nat) (d : Option Tmp) (rest : List Oper) (pl : List Pl) (Q : XQ) (s : Ch) (H : Heap) (hs : List Heap) (pd : List Pd) : Prop :=
  ∃ v H', r.steps P H v H' ∧ pOk P k H' pd ∧ dwp P ops rest pl Q (s.put? d v) H' (hs ++ [H]) pd
def dH (P : Program) (ops : Array Oper) (k : Nat) (v : AV) (d : Option Tmp) (rest : List Oper) (pl : List Pl) (Q : XQ) (s : Ch) (H : Heap) (hs : List Heap) (pd : List Pd) : Prop :=
  pOk P k H pd ∧ dwp P ops rest pl Q (s.put? d v) H hs pd
theorem d_nil : dwp P ops [] pl Q s H hs pd = Q .normal s H := id rfl
theorem d_none : dwp P ops (⟨d, op, ty, pos, af, none⟩ :: rest) (p :: pl) Q s H hs pd = dN P ops op p d rest pl Q s H hs pd := id rfl
theorem d_some : dwp P ops (⟨d, op, ty, pos, af, some (j, want)⟩ :: rest) (p :: pl) Q s H hs pd = dG P ops (gval ops s j) want op p d rest pl Q s H hs pd := id rfl
theorem dN_qu : dN P ops op (.qu lo hi) d rest pl Q s H hs pd = dQ P ops (aop P s H op) d rest pl Q s H hs pd := id rfl
theorem dN_rd : dN P ops (.load t y) (.rd lo hi) d rest pl Q s H hs pd = dR P ops (.load t (cev s y)) (aLoad P t (cev s y) H) lo hi d rest pl Q s H hs pd := id rfl
theorem dN_rds {x1 x2 x3 : Option Operand} : dN P ops (.slice t y x1 x2 x3) (.rd lo hi) d rest pl Q s H hs pd = dR P ops (.slice t (cev s y) (x1.map (cev s)) (x2.map (cev s)) (x3.map (cev s))) (aSlice P t (cev s y) H (x1.map (cev s)) (x2.map (cev s)) (x3.map (cev s))) lo hi d rest pl Q s H hs pd := id rfl
theorem dN_rdi {k : Operand} : dN P ops (.indexAddr t y k) (.rd lo hi) d rest pl Q s H hs pd = dR P ops (.iaddr t (cev s y) (cev s k)) (aIndexAddr P t (cev s y) (cev s k) H) lo hi d rest pl Q s H hs pd := id rfl
theorem dN_rdc {args : Array Operand} {ts : Array TypeId} : dN P ops (.call ⟨.value (.tmp dd), args, ts⟩) (.rd lo hi) d rest pl Q s H hs pd = dR P ops (.call (s.get dd) (evs s args)) (aCallV (s.get dd) (evs s args)) lo hi d rest pl Q s H hs pd := id rfl
theorem dN_rdcf {g : FuncId} {args : Array Operand} {ts : Array TypeId} : dN P ops (.call ⟨.value (.func g), args, ts⟩) (.rd lo hi) d rest pl Q s H hs pd = dR P ops (.callf g (evs s args)) (aCallG (memO g ovl) P g (evs s args) H) lo hi d rest pl Q s H hs pd := id rfl
theorem rd_call {xs : List AV} : (Rd.call x xs).run P H = aCallV x xs := id rfl
theorem rd_callf {g : FuncId} {xs : List AV} : (Rd.callf g xs).run P H = aCallG (memO g ovl) P g xs H := id rfl
theorem rd_load : (Rd.load t x).run P H = aLoad P t x H := id rfl
theorem rd_slice {x1 x2 x3 : Option AV} : (Rd.slice t x x1 x2 x3).run P H = aSlice P t x H x1 x2 x3 := id rfl
theorem rd_iaddr {k : AV} : (Rd.iaddr t x k).run P H = aIndexAddr P t x k H := id rfl
theorem dN_mn : dN P ops op (.mn k) d rest pl Q s H hs pd = dM P ops (aop P s H op) k d rest pl Q s H hs pd := id rfl
theorem dG_same {b : Bool} : dG P ops (.bool b) b op p d rest pl Q s H hs pd = dN P ops op p d rest pl Q s H hs pd := by simp [dG, gk]
theorem dG_tf : dG P ops (.bool true) false op p d rest pl Q s H hs pd = dSk P ops p d rest pl Q s H hs pd := by simp [dG, gk]
theorem dG_ft : dG P ops (.bool false) true op p d rest pl Q s H hs pd = dSk P ops p d rest pl Q s H hs pd := by simp [dG, gk]
theorem dG_dec {p' : Prop} [Decidable p'] (h1 : p' → dG P ops (.bool true) want op p d rest pl Q s H hs pd) (h2 : ¬ p' → dG P ops (.bool false) want op p d rest pl Q s H hs pd) : dG P ops (.bool (decide p')) want op p d rest pl Q s H hs pd := by
  by_cases h : p'
  · simpa [h] using h1 h
  · simpa [h] using h2 h
theorem dG_un : dG P ops (.tuple []) want op p d rest pl Q s H hs pd = dSk P ops p d rest pl Q s H hs pd := by simp [dG, gk]
theorem dSk_qu : dSk P ops (.qu lo hi) (some dd) rest pl Q s H hs pd = dwp P ops rest pl Q (s.put dd (.tuple [])) H hs pd := id rfl
theorem dSk_qun : dSk P ops (.qu lo hi) none rest pl Q s H hs pd = dwp P ops rest pl Q s H hs pd := id rfl
theorem dSk_rd : dSk P ops (.rd lo hi) (some dd) rest pl Q s H hs pd = dwp P ops rest pl Q (s.put dd (.tuple [])) H hs pd := id rfl
theorem dSk_mn : dSk P ops (.mn k) (some dd) rest pl Q s H hs pd = (pOk P k H pd ∧ dwp P ops rest pl Q (s.put dd (.tuple [])) H (hs ++ [H]) pd) := id rfl
theorem dSk_mnn : dSk P ops (.mn k) none rest pl Q s H hs pd = (pOk P k H pd ∧ dwp P ops rest pl Q s H (hs ++ [H]) pd) := id rfl
theorem y_val {u : AV} : (AR.val u).yields P H v = (u = v) := id rfl
theorem y_chk {q : Prop} : (AR.chk q r).yields P H v = (q ∧ r.yields P H v) := id rfl
theorem y_call {f : FuncId} {args : List AV} (hE : Enters P f) (hc : ∀ H, ACalls P f args H fun o H2 => o = .ret v ∧ H2 = H) (h : dwp P ops rest pl Q (s.put? d v) H hs pd) : dQ P ops (.call f args) d rest pl Q s H hs pd := ⟨v, fun H2 => ⟨hE, hc H2⟩, h⟩
theorem dQ_val : dQ P ops (.val v) (some dd) rest pl Q s H hs pd = dwp P ops rest pl Q (s.put dd v) H hs pd := by simp [dQ, AR.yields, Ch.put?]
theorem dQ_valn : dQ P ops (.val v) none rest pl Q s H hs pd = dwp P ops rest pl Q s H hs pd := by simp [dQ, AR.yields, Ch.put?]
theorem dQ_chk {q : Prop} : dQ P ops (.chk q r) d rest pl Q s H hs pd = (q ∧ dQ P ops r d rest pl Q s H hs pd) := by simp [dQ, AR.yields, forall_and, and_assoc]
theorem dQ_chkT : dQ P ops (.chk True r) d rest pl Q s H hs pd = dQ P ops r d rest pl Q s H hs pd := by simp [dQ_chk]
theorem dR_val : dR P ops rd (.val v) lo hi (some dd) rest pl Q s H hs pd = (eOk P rd v (hs.drop lo) ∧ dwp P ops rest pl Q (s.put dd v) H hs (⟨rd, v, hi⟩ :: pd)) := by simp [dR, AR.yields, Ch.put?]
theorem dR_chk {q : Prop} : dR P ops rd (.chk q r) lo hi d rest pl Q s H hs pd = (q ∧ dR P ops rd r lo hi d rest pl Q s H hs pd) := by simp [dR, AR.yields, and_assoc]
theorem dR_chkT : dR P ops rd (.chk True r) lo hi d rest pl Q s H hs pd = dR P ops rd r lo hi d rest pl Q s H hs pd := by simp [dR_chk]
theorem dM_val : dM P ops (.val v) k (some dd) rest pl Q s H hs pd = (pOk P k H pd ∧ dwp P ops rest pl Q (s.put dd v) H (hs ++ [H]) pd) := by simp [dM, AR.steps, Ch.put?, and_assoc]
theorem dM_valn : dM P ops (.val v) k none rest pl Q s H hs pd = (pOk P k H pd ∧ dwp P ops rest pl Q s H (hs ++ [H]) pd) := by simp [dM, AR.steps, Ch.put?, and_assoc]
theorem dM_chk {q : Prop} : dM P ops (.chk q r) k d rest pl Q s H hs pd = (q ∧ dM P ops r k d rest pl Q s H hs pd) := by simp [dM, AR.steps, and_assoc]
theorem dM_chkT : dM P ops (.chk True r) k d rest pl Q s H hs pd = dM P ops r k d rest pl Q s H hs pd := by simp [dM_chk]
theorem dM_alloc {f : Nat → AV} : dM P ops (.alloc b f) k d rest pl Q s H hs pd = dH P ops k (f H.length) d rest pl Q s (H ++ [b]) (hs ++ [H]) pd := by simp [dM, dH, AR.steps, and_assoc]
theorem dM_upd : dM P ops (.upd H' v) k d rest pl Q s H hs pd = dH P ops k v d rest pl Q s H' (hs ++ [H]) pd := by simp [dM, dH, AR.steps, and_assoc]
theorem dH_cons {hh : Heap} : dH P ops k v (some dd) rest pl Q s (b :: H) (hh :: hs) pd = (pOk P k (b :: H) pd ∧ dwp P ops rest pl Q (s.put dd v) (b :: H) (hh :: hs) pd) := id rfl
theorem dH_consn {hh : Heap} : dH P ops k v none rest pl Q s (b :: H) (hh :: hs) pd = (pOk P k (b :: H) pd ∧ dwp P ops rest pl Q s (b :: H) (hh :: hs) pd) := id rfl
theorem dH_nil {hh : Heap} : dH P ops k v (some dd) rest pl Q s [] (hh :: hs) pd = (pOk P k [] pd ∧ dwp P ops rest pl Q (s.put dd v) [] (hh :: hs) pd) := id rfl
theorem dH_niln {hh : Heap} : dH P ops k v none rest pl Q s [] (hh :: hs) pd = (pOk P k [] pd ∧ dwp P ops rest pl Q s [] (hh :: hs) pd) := id rfl
theorem dM_call {f : FuncId} {args : List AV} {v : AV} {H' : Heap} (hE : Enters P f) (hc : ACalls P f args H fun o H2 => o = .ret v ∧ H2 = H') (h : dH P ops k v d rest pl Q s H' (hs ++ [H]) pd) : dM P ops (.call f args) k d rest pl Q s H hs pd :=
  ⟨v, H', ⟨hE, hc⟩, h.1, h.2⟩
theorem pOk_nil : pOk P k H [] = True := id rfl
theorem pOk_cons : pOk P k H (⟨rd, v, hi⟩ :: pd) = ((if k < hi then (rd.run P H).yields P H v else True) ∧ pOk P k H pd) := id rfl
theorem eOk_nil : eOk P rd v [] = True := id rfl
theorem eOk_cons {hs : List Heap} : eOk P rd v (h :: hs) = ((rd.run P h).yields P h v ∧ eOk P rd v hs) := id rfl
theorem dN_gn {z : Nat} : dN P ops op (.gn z lo hi) d rest pl Q s H hs pd = ((∀ H2, (aop P s H2 op).nil0) ∧ dwp P ops rest pl Q (s.put? d (.view true z [])) H hs pd) := id rfl
theorem nil0_alloc {f : Nat → AV} : (AR.alloc b f).nil0 = ∀ k, f k = .sl k 0 0 (some 0) := id rfl
theorem nil0_chk {q : Prop} : (AR.chk q r).nil0 = (q ∧ r.nil0) := id rfl
theorem opMat_eq {s : Ch} {args : Array Operand} {ts : Array TypeId} {len : Nat} : opMat P s (.call ⟨.builtin .append, args, ts⟩) b len = (match ts.toList, evs s args with
    | [t, t2], [x, y] => aMat P t t2 x y b len
    | _, _ => False) := id rfl
theorem rd_blk {r : Nat} : (Rd.blk r b).run P H = .chk (H[r]? = some b) (.val (.tuple [])) := id rfl
theorem mval_call {c : Call} {r len : Nat} : mval (.call c) r len = .sl r 0 len none := id rfl
theorem mval_alloc {t : TypeId} {r len : Nat} : mval (.alloc t) r len = .ptr r 0 0 := id rfl
theorem draw {id : Nat} {l : List Oper} (pl : List Pl) (hpl : (planOk n l.toArray pl && noG pl) = true) (hm : P.follows .mixedOrders = true) (h : dwp P l.toArray l pl Q s H [] []) : SWp P n D (.region id l.toArray true) Q s H := draw_intro pl hpl hm h
end
attribute [go_sem ↓] d_nil d_none d_some dN_qu dN_rd dN_rds dN_rdi dN_rdc dN_rdcf dN_mn dN_gn
attribute [go_sem] mval_call mval_alloc dG_same dG_tf dG_ft dG_un dSk_qu dSk_qun dSk_rd dSk_mn dSk_mnn y_val y_chk rd_load rd_slice rd_iaddr rd_call rd_callf rd_blk nil0_alloc nil0_chk opMat_eq aMat aMatE implies_true forall_const dQ_val dQ_valn dQ_chk dQ_chkT dR_val dR_chk dR_chkT dM_val dM_valn dM_chk dM_chkT dM_alloc dM_upd dH_cons dH_consn dH_nil dH_niln pOk_nil pOk_cons eOk_nil eOk_cons
end Go.AM
set_option linter.unusedVariables false
set_option linter.unusedSimpArgs false
namespace Go.AM
theorem upon_monoN {P : Program} {o : Oper} {a : Act} {K K' : Act → World → Prop} {Q Q' : Exit → Act → World → Prop} (hk : ∀ a w, K a w → K' a w) (hq : ∀ e a w, e ≠ .normal → Q e a w → Q' e a w) {r : Result Next} (h : o.upon P a K Q r) : o.upon P a K' Q' r := by
  have hl : LetsOut Q → LetsOut Q' := fun ⟨a, w, h⟩ => ⟨a, w, hq _ _ _ (by intro e; cases e) h⟩
  cases r with
  | ok n w' =>
    cases n <;> simp only [Oper.upon] at h ⊢ <;> first
      | exact h.elim
      | exact hk _ _ h
      | exact h.mono (fun e w'' he => by cases e <;> first | exact hk _ _ he | exact hq _ _ _ (by intro e; cases e) he | exact hl he)
      | exact Rows.mono h (fun _ _ he => hk _ _ he)
  | halt x w' => cases x <;> simp only [Oper.upon] at h ⊢ <;> exact hq _ _ _ (by intro e; cases e) h
def lastOk (n : Nat) (l : List Oper) (o : Oper) : Bool :=
  dstOk n o && l.all (fun x => match x.guard with | some (j, _) => decide (j < l.length) | none => true)
  && o.after.all (fun e => !Region.binds .any e || decide (e.on < l.length))
  && (List.range l.length).all (fun j => match l[j]? with | some x => x.after.all (fun e => !Region.binds .any e || decide (e.on < j)) | none => false)
  && (List.range l.length).all (fun j => edgeB o j || (List.range l.length).any fun k => decide (j < k) && match l[k]? with | some x => edgeB x j | none => false)
section
variable {P : Program} {n : Nat} {D : Fx} {l : List Oper} {o : Oper}
theorem snoc_lt {i : Nat} (h : i < l.length) : (l ++ [o]).toArray[i]? = l.toArray[i]? := by
  rw [List.getElem?_toArray, List.getElem?_toArray, List.getElem?_append_left h]
theorem snoc_eq : (l ++ [o]).toArray[l.length]? = some o := by simp
theorem snoc_some {i : Nat} {x : Oper} (h : (l ++ [o]).toArray[i]? = some x) : i < l.length ∨ (i = l.length ∧ x = o) := by
  rcases Nat.lt_trichotomy i l.length with h1 | h1 | h1
  · exact .inl h1
  · subst h1; rw [snoc_eq] at h; exact .inr ⟨rfl, (Option.some.inj h).symm⟩
  · rw [List.getElem?_toArray, List.getElem?_eq_none (by simp; omega)] at h; cases h
theorem getD_push {listed : Array Bool} {i : Nat} (b : Bool) (h : i < listed.size) : (listed.push false).getD i b = listed.getD i b := by
  rw [Array.getD_eq_getD_getElem?, Array.getD_eq_getD_getElem?, Array.getElem?_push, if_neg (by omega)]
theorem getD_tf {listed : Array Bool} {i : Nat} (h : i < listed.size) : listed.getD i true = listed.getD i false := by
  rw [Array.getD_eq_getD_getElem?, Array.getD_eq_getD_getElem?, Array.getElem?_eq_getElem h]; rfl
theorem set_push {listed : Array Bool} {i : Nat} (h : i < listed.size) : (listed.push false).setIfInBounds i true = (listed.setIfInBounds i true).push false := by
  apply Array.ext_getElem?
  intro k
  simp only [Array.getElem?_setIfInBounds, Array.getElem?_push, Array.size_push, Array.size_setIfInBounds]
  by_cases h1 : i = k
  · subst h1
    rw [if_pos rfl, if_pos (by omega), if_neg (by omega), if_pos rfl, if_pos h]
  · rw [if_neg h1]
    by_cases h2 : k = listed.size
    · rw [if_pos h2, if_pos h2]
    · rw [if_neg h2, if_neg h2, if_neg h1]
theorem wpAny_snoc {Q1 Q : Exit → Act → World → Prop} (hL : lastOk n l o = true) (hn : ∀ a w, Q1 .normal a w → wpOp P (l ++ [o]).toArray Q l.length (fun a w => Q .normal a w) a w) (he : ∀ e a w, e ≠ .normal → Q1 e a w → Q e a w) :
    ∀ (fuel : Nat) (listed : Array Bool) (a : Act) (w : World), listed.size = l.length → listed.toList.countP (·) + fuel = l.length → (∀ (k : Nat) x, Lst listed k → l[k]? = some x → ∀ j, edge x j → Lst listed j) →
      wpAny P .any l.toArray Q1 fuel listed a w → wpAny P .any (l ++ [o]).toArray Q (fuel + 1) (listed.push false) a w := by
  simp only [lastOk, Bool.and_eq_true, List.all_eq_true, List.mem_range] at hL
  obtain ⟨⟨⟨⟨hdst, hgu⟩, hoe⟩, htop⟩, hcov⟩ := hL
  have top : ∀ (j : Nat) x, l[j]? = some x → ∀ i, edge x i → i < j := fun j x hx i ⟨e, hm, hb, hi⟩ => by
    have := htop j (List.getElem?_eq_some_iff.1 hx).1
    rw [hx] at this
    have := Array.all_eq_true_iff_forall_mem.1 this e hm
    simp [hb] at this
    omega
  have topo : ∀ i, edge o i → i < l.length := fun i ⟨e, hm, hb, hi⟩ => by
    have := Array.all_eq_true_iff_forall_mem.1 hoe e hm
    simp [hb] at this
    omega
  have allL : ∀ (listed : Array Bool), (∀ (k : Nat) x, Lst listed k → l[k]? = some x → ∀ j, edge x j → Lst listed j) → (∀ i, edge o i → Lst listed i) → ∀ (m j : Nat), l.length - j ≤ m → j < l.length → Lst listed j := by
    intro listed hcl ho m
    induction m with
    | zero => intro j h1 h2; omega
    | succ m ih =>
      intro j h1 h2
      have := hcov j h2
      simp only [Bool.or_eq_true, List.any_eq_true, List.mem_range, Bool.and_eq_true, decide_eq_true_eq] at this
      rcases this with h | ⟨k, hk, hjk, h⟩
      · exact ho j (edgeB_iff.1 h)
      · rw [List.getElem?_eq_getElem hk] at h
        exact hcl k _ (ih k (by omega) hk) (List.getElem?_eq_getElem hk) j (edgeB_iff.1 h)
  have full : ∀ (listed : Array Bool), listed.size = l.length → (∀ j, j < l.length → Lst listed j) → listed.toList.countP (·) = l.length := by
    intro listed hs h
    rw [← hs, ← Array.length_toList, List.countP_eq_length]
    intro b hb
    obtain ⟨k, hk⟩ := List.getElem?_of_mem hb
    have hkl : k < l.length := by have := (List.getElem?_eq_some_iff.1 hk).1; rw [Array.length_toList, hs] at this; exact this
    have := h k hkl
    unfold Lst at this
    rw [Array.getD_eq_getD_getElem?, ← Array.getElem?_toList, hk] at this
    simpa using this
  have rdy : ∀ (listed : Array Bool), listed.size = l.length → ∀ i, i < l.length → (i ∈ Region.ready .any (l ++ [o]).toArray (listed.push false) ↔ i ∈ Region.ready .any l.toArray listed) := by
    intro listed hs i hi
    rw [mem_ready, mem_ready, getD_push _ (by omega), snoc_lt hi]
    refine and_congr_right fun _ => exists_congr fun x => and_congr_right fun hx => forall_congr' fun e => forall_congr' fun hm => forall_congr' fun hb => ?_
    rw [getD_push _ (by have := top i x (by simpa using hx) e.on ⟨e, hm, hb, rfl⟩; omega)]
  have rdyo : ∀ (listed : Array Bool), listed.size = l.length → ∀ i, l.length ≤ i → i ∈ Region.ready .any (l ++ [o]).toArray (listed.push false) → i = l.length ∧ ∀ j, edge o j → Lst listed j := by
    intro listed hs i hi h
    obtain ⟨_, x, hx, hr⟩ := mem_ready.1 h
    rcases snoc_some hx with h1 | ⟨h1, rfl⟩
    · omega
    · refine ⟨h1, fun j ⟨e, hm, hb, hj⟩ => ?_⟩
      have := hr e hm hb
      rw [hj, getD_push _ (by have := topo j ⟨e, hm, hb, hj⟩; omega)] at this
      exact this
  intro fuel
  induction fuel with
  | zero =>
    intro listed a w hs hc hcl h
    have hall : ∀ j, j < l.length → Lst listed j := by
      intro j hj
      have h1 : listed.toList.countP (·) = listed.toList.length := by rw [Array.length_toList, hs]; simpa using hc
      have h2 := List.countP_eq_length.1 h1
      unfold Lst
      have hk' : j < listed.size := by rw [hs]; exact hj
      rw [Array.getD_eq_getD_getElem?, Array.getElem?_eq_getElem hk']
      exact h2 _ (by simp)
    have hK : l.length ∈ Region.ready .any (l ++ [o]).toArray (listed.push false) := by
      rw [mem_ready]
      refine ⟨?_, o, snoc_eq, fun e hm hb => ?_⟩
      · rw [Array.getD_eq_getD_getElem?, Array.getElem?_push, if_pos hs.symm]; rfl
      · have hlt := topo e.on ⟨e, hm, hb, rfl⟩
        rw [getD_push _ (by omega)]
        exact hall _ hlt
    refine ⟨fun hr => (by rw [hr] at hK; cases hK), fun i hi => ?_⟩
    have hi' : i = l.length := by
      rcases Nat.lt_or_ge i l.length with h1 | h1
      · have := (mem_ready.1 ((rdy listed hs i h1).1 hi)).1
        rw [getD_tf (by omega)] at this
        have h2 := hall i h1
        unfold Lst at h2
        rw [h2] at this; cases this
      · exact (rdyo listed hs i h1 hi).1
    subst hi'
    have h0 := hn a w h.2
    have hready : Region.ready .any (l ++ [o]).toArray ((listed.push false).setIfInBounds l.length true) = [] := by
      rw [List.eq_nil_iff_forall_not_mem]
      intro k hk
      obtain ⟨h1, x, hx, _⟩ := mem_ready.1 hk
      rw [Array.getD_eq_getD_getElem?, Array.getElem?_setIfInBounds] at h1
      rcases snoc_some hx with h2 | ⟨h2, _⟩
      · rw [if_neg (by omega), ← Array.getD_eq_getD_getElem?, getD_push _ (by omega), getD_tf (by omega)] at h1
        have h3 := hall k h2
        unfold Lst at h3
        rw [h3] at h1; cases h1
      · rw [if_pos h2.symm, if_pos (by simp; omega)] at h1; cases h1
    unfold wpOp at h0 ⊢
    rw [snoc_eq] at h0 ⊢
    simp only at h0 ⊢
    split
    · rename_i hw
      rw [if_pos hw] at h0
      rcases h0 with h0 | h0
      · exact .inl (Oper.wp_mono (fun a w hq => ⟨hready, hq⟩) h0)
      · exact .inr h0
    · rename_i hw
      rw [if_neg hw] at h0
      exact ⟨hready, h0⟩
  | succ fuel ih =>
    intro listed a w hs hc hcl h
    have notall : ¬ ∀ j, j < l.length → Lst listed j := fun hall => by have := full listed hs hall; omega
    refine ⟨fun hr => absurd ?_ notall, fun i hi => ?_⟩
    · intro j
      induction j using Nat.strongRecOn with
      | _ j ihj =>
        intro hj
        by_cases hl : Lst listed j
        · exact hl
        · have : j ∈ Region.ready .any (l ++ [o]).toArray (listed.push false) := by
            rw [rdy listed hs j hj, mem_ready]
            refine ⟨?_, l[j], by simp [hj], fun e hm hb => ?_⟩
            · unfold Lst at hl
              rw [getD_tf (by omega)]
              simpa using hl
            · have := top j _ (List.getElem?_eq_getElem hj) e.on ⟨e, hm, hb, rfl⟩
              exact ihj e.on this (by omega)
          rw [hr] at this
          cases this
    · rcases Nat.lt_or_ge i l.length with h1 | h1
      · have hir := (rdy listed hs i h1).1 hi
        have h2 := h.2 i hir
        obtain ⟨hx1, x, hx, hx2⟩ := mem_ready.1 hir
        have hil : i < listed.size := by omega
        have hfalse : listed[i] = false := by
          rw [Array.getD_eq_getD_getElem?, Array.getElem?_eq_getElem hil] at hx1
          simpa using hx1
        have hcnt : (listed.setIfInBounds i true).toList.countP (·) + fuel = l.length := by
          rw [Array.toList_setIfInBounds, List.countP_set (by simpa using hil)]
          simp only [Array.getElem_toList, hfalse]
          simp only [Bool.false_eq_true, if_false, if_true, Nat.sub_zero]
          omega
        have hlx : l[i]? = some x := by simpa using hx
        have hcl' : ∀ (k : Nat) y, Lst (listed.setIfInBounds i true) k → l[k]? = some y → ∀ j, edge y j → Lst (listed.setIfInBounds i true) j := by
          intro k y hk hy j hj
          rw [lst_set hil] at hk ⊢
          rcases hk with hk | rfl
          · exact .inl (hcl k y hk hy j hj)
          · rw [hlx] at hy; cases hy
            obtain ⟨e, hm, hb, rfl⟩ := hj
            exact .inl (hx2 e hm hb)
        rw [set_push hil]
        have hwy : Region.wanted x (yielded (l ++ [o]).toArray a.tmps) = Region.wanted x (yielded l.toArray a.tmps) := by
          unfold Region.wanted
          cases hg : x.guard with
          | none => rfl
          | some g =>
            obtain ⟨j, wnt⟩ := g
            have := hgu x (List.mem_of_getElem? hlx)
            rw [hg] at this
            simp only [decide_eq_true_eq] at this
            simp only [yielded, snoc_lt this]
        unfold wpOp at h2 ⊢
        rw [snoc_lt h1, hx]
        rw [hx] at h2
        simp only [hwy] at h2 ⊢
        split
        · rename_i hw
          rw [if_pos hw] at h2
          rcases h2 with h2 | h2
          · exact .inl (upon_monoN (fun a w hq => ih _ a w (by simp [hs]) hcnt hcl' hq) he h2)
          · exact .inr ⟨h2.1, let ⟨a, w, h⟩ := h2.2; ⟨a, w, he _ _ _ (by intro e; cases e) h⟩⟩
        · rename_i hw
          rw [if_neg hw] at h2
          exact ih _ _ _ (by simp [hs]) hcnt hcl' h2
      · obtain ⟨_, hr⟩ := rdyo listed hs i h1 hi
        exact absurd (fun j hj => allL listed hcl hr l.length j (by omega) hj) notall
def lastX (P : Program) (ops : Array Oper) (o : Oper) (Q : XQ) : XQ := fun x s H => match x with
  | .normal => cops P ops [o] Q s H
  | x => Q x s H
theorem SAny.last {Q : XQ} {s : Ch} {H : Heap} {id : Nat} (hL : lastOk n l o = true) (hd : ((l ++ [o]).toArray.all (dstOk n) && (l ++ [o]).toArray.all noDef) = true) (hm : P.follows .mixedOrders = true) (h : SAny P n D l.toArray (lastX P (l ++ [o]).toArray o Q) s H) : SWp P n D (.region id (l ++ [o]).toArray true) Q s H := by
  intro ro sn ρ w a hR hs hdf hB
  simp only [Bool.and_eq_true] at hd
  obtain ⟨hd, hnd⟩ := hd
  refine wpIn_region_any hm (wpAny_in hnd notOut _ _ _ _ ?_)
  have h0 := h sn ρ w a hR hs hdf hB
  have hsz : (l ++ [o]).toArray.size = l.length + 1 := by simp
  have hrep : Array.replicate (l.length + 1) false = (Array.replicate l.length false).push false := by rw [Array.replicate_succ]
  rw [hsz, hrep]
  rw [show l.toArray.size = l.length by simp] at h0
  refine wpAny_snoc hL ?_ ?_ l.length _ a _ (by simp) (by simp [List.countP_replicate]) ?_ h0
  · rintro a' w' ⟨sn', ρ', H', s', x, h1, h2, h3, h4, h5, h6⟩
    have := h1.normal
    subst this
    have hk : cops P (l ++ [o]).toArray ((l ++ [o]).toArray.toList.drop l.length) Q s' H' := by simpa [lastX] using h6
    have h7 := cops_sound (D := D) hd 1 l.length s' H' (by simp) hk sn' ρ' w' a' h2 h3 h4 h5.len
    rw [show List.range' l.length 1 = [l.length] from rfl, wpOps_cons] at h7
    have mono : ∀ (e : Exit) (a2 : Act) (w2 : World), (∃ sn2 ρ2 H2 s2 x, AXR sn2 ρ2 x e ∧ Rel sn2 ρ2 H2 w2 ∧ SR sn2 ρ2 n s2 a2.tmps ∧ a2.defers = D.D ∧ ExtB D.B sn' ρ' H' w' sn2 ρ2 H2 w2 ∧ Q x s2 H2) → (∃ sn2 ρ2 H2 s2 x, AXR sn2 ρ2 x e ∧ Rel sn2 ρ2 H2 w2 ∧ SR sn2 ρ2 n s2 a2.tmps ∧ a2.defers = D.D ∧ ExtB D.B sn ρ H w sn2 ρ2 H2 w2 ∧ Q x s2 H2) :=
      fun e a2 w2 ⟨sn2, ρ2, H2, s2, x, g1, g2, g3, g4, g5, g6⟩ => ⟨sn2, ρ2, H2, s2, x, g1, g2, g3, g4, h5.trans g5, g6⟩
    unfold wpOp at h7 ⊢
    rw [snoc_eq] at h7 ⊢
    simp only [wpOps] at h7 ⊢
    split
    · rename_i hw
      rw [if_pos hw] at h7
      rcases h7 with h7 | ⟨h7, h8⟩
      · exact .inl (upon_mono (mono .normal) mono h7)
      · exact .inr ⟨h7, let ⟨a2, w2, h⟩ := h8; ⟨a2, w2, mono _ _ _ h⟩⟩
    · rename_i hw
      rw [if_neg hw] at h7
      exact mono _ _ _ h7
  · rintro e a' w' hne ⟨sn', ρ', H', s', x, h1, h2, h3, h4, h5, h6⟩
    refine ⟨sn', ρ', H', s', x, h1, h2, h3, h4, h5, ?_⟩
    cases x with
    | normal => cases e <;> simp [AXR] at h1; exact absurd rfl hne
    | _ => exact h6
  · intro k x hk
    unfold Lst at hk
    rw [Array.getD_eq_getD_getElem?, Array.getElem?_replicate] at hk
    split at hk <;> simp at hk
theorem lastX_normal {ops : Array Oper} {Q : XQ} {s : Ch} {H : Heap} : lastX P ops o Q .normal s H = cops P ops [o] Q s H := id rfl
end
attribute [go_sem] lastX_normal
end Go.AM
set_option linter.unusedVariables false
set_option linter.unusedSimpArgs false
namespace Go.AM
theorem wpOps_append {P : Program} {ops : Array Oper} {Q : Exit → Act → World → Prop} {l2 : List Nat} : ∀ {l1 : List Nat} {a : Act} {w : World},
    wpOps P ops (fun e a w => match e with | .normal => wpOps P ops Q l2 a w | e => Q e a w) l1 a w → wpOps P ops Q (l1 ++ l2) a w := by
  intro l1
  induction l1 with
  | nil => intro a w h; exact h
  | cons i rest ih =>
    intro a w h
    simp only [List.cons_append, wpOps] at h ⊢
    split
    · rename_i ho
      simp only [ho] at h
      exact ih h
    · rename_i o ho
      simp only [ho] at h
      split
      · rename_i hw
        simp only [hw, if_true] at h
        rcases h with h | h
        · refine .inl ?_
          unfold Oper.wp at h ⊢
          generalize (execOp a.eval o).run P w = r at h ⊢
          cases r with
          | ok n w' =>
            cases n <;> simp only [Oper.upon] at h ⊢ <;> first
              | exact h.elim
              | exact ih h
              | exact h.mono (fun e w'' he => by cases e <;> first | exact ih he | exact he)
              | exact Rows.mono h (fun _ _ he => ih he)
          | halt x w' => cases x <;> simp only [Oper.upon] at h ⊢ <;> exact h
        · exact .inr ⟨h.1, h.2⟩
      · rename_i hw
        simp only [hw] at h
        exact ih h
theorem cops_part {P : Program} {n : Nat} {D : Fx} {ops : Array Oper} {Q : XQ} (hd : ops.all (dstOk n) = true) : ∀ (m k : Nat) (s : Ch) (H : Heap), k + m ≤ ops.size → cops P ops ((ops.toList.drop k).take m) Q s H → SOps P n D ops (List.range' k m) Q s H := by
  intro m
  induction m with
  | zero =>
    intro k s H hk h sn ρ w a hR hs hdf hB
    exact ⟨sn, ρ, H, s, .normal, trivial, hR, hs, hdf, .refl hB, h⟩
  | succ m ih =>
    intro k s H hk h sn ρ w a hR hs hdf hB
    have hlt : k < ops.size := by omega
    have hcons : (ops.toList.drop k).take (m + 1) = ops[k] :: (ops.toList.drop (k + 1)).take m := by
      rw [List.drop_eq_getElem_cons (by simpa using hlt)]; simp
    rw [hcons] at h
    have hok : ops[k]? = some ops[k] := Array.getElem?_eq_getElem hlt
    have hdk : dstOk n ops[k] = true := by
      rw [Array.all_eq_true] at hd
      exact hd k hlt
    have hrest : ∀ s' H', cops P ops ((ops.toList.drop (k + 1)).take m) Q s' H' → SOps P n D ops (List.range' (k + 1) m) Q s' H' := fun s' H' h' => ih (k + 1) s' H' (by omega) h'
    have run : (aop P s H ops[k].op).k P H (fun v H' => cops P ops ((ops.toList.drop (k + 1)).take m) Q (s.put? ops[k].dst v) H') (fun v H' => Q (.pan v) s H') →
        Oper.wp P ops[k] a w (wpOps P ops (fun e a' w' => ∃ sn' ρ' H' s' x, AXR sn' ρ' x e ∧ Rel sn' ρ' H' w' ∧ SR sn' ρ' n s' a'.tmps ∧ a'.defers = D.D ∧ ExtB D.B sn ρ H w sn' ρ' H' w' ∧ Q x s' H') (List.range' (k + 1) m))
          (fun e a' w' => ∃ sn' ρ' H' s' x, AXR sn' ρ' x e ∧ Rel sn' ρ' H' w' ∧ SR sn' ρ' n s' a'.tmps ∧ a'.defers = D.D ∧ ExtB D.B sn ρ H w sn' ρ' H' w' ∧ Q x s' H') := by
      intro hk'
      refine upon_ok hR ?_ ?_ _ (aop_ok hR hs ops[k] (AR.enters_of_k hk')) hk'
      · intro sn' ρ' H' w' v cv q1 q2 hv hc
        have := hrest _ _ hc sn' ρ' w' (a.put ops[k].dst cv) q1 ((hs.mono q2.snap q2.env).put? hdk hv) (by rw [put_defers]; exact hdf) (Nat.le_trans hB q2.len)
        exact wpOps_mono (fun e a'' w'' ⟨sn2, ρ2, H2, s2, x, g1, g2, g3, g4, g5, g6⟩ => ⟨sn2, ρ2, H2, s2, x, g1, g2, g3, g4, (q2.b hB).trans g5, g6⟩) _ _ _ this
      · intro sn' ρ' H' w' v cv q1 q2 hv hc
        exact ⟨sn', ρ', H', s, .pan v, hv, q1, hs.mono q2.snap q2.env, hdf, q2.b hB, hc⟩
    rw [List.range'_succ]
    simp only [wpOps, hok]
    simp only [cops] at h
    split at h
    · rename_i hg
      have hw : Region.wanted ops[k] (yielded ops a.tmps) = true := by simp [Region.wanted, hg]
      rw [if_pos hw]
      exact .inl (run h)
    · rename_i j want hg
      unfold gk at h
      split at h
      · rename_i b hb
        have hy := gval_ok hs hb
        split at h
        · rename_i hbw
          have hw : Region.wanted ops[k] (yielded ops a.tmps) = true := by simp [Region.wanted, hg, hy, hbw]
          rw [if_pos hw]
          exact .inl (run h)
        · rename_i hbw
          have hw : ¬ Region.wanted ops[k] (yielded ops a.tmps) = true := by simp [Region.wanted, hg, hy, hbw]
          rw [if_neg hw]
          exact hrest _ _ h sn ρ w (a.put ops[k].dst undef) hR (hs.put? hdk (undef_ok _ _)) (by rw [put_defers]; exact hdf) hB
      · rename_i hb
        have hw : ¬ Region.wanted ops[k] (yielded ops a.tmps) = true := by simp [Region.wanted, hg, gval_undef hs hb]
        rw [if_neg hw]
        exact hrest _ _ h sn ρ w (a.put ops[k].dst undef) hR (hs.put? hdk (undef_ok _ _)) (by rw [put_defers]; exact hdf) hB
      · exact h.elim
inductive DM where
  | ret
  | pan (v : AV)
def MR (sn : Snap) (ρ : Env) : DM → FrameMode → Prop
  | .ret, .returning => True
  | .pan x, .panicking [{ v, recovered := false, goexit := false }] => VR sn ρ x v
  | _, _ => False
theorem MR.pan_inv {sn : Snap} {ρ : Env} {x : AV} {u : FrameMode} (h : MR sn ρ (.pan x) u) : ∃ v, u = .panicking [{ v, recovered := false }] ∧ VR sn ρ x v := by
  unfold MR at h
  split at h
  · rename_i h1; cases h1
  · rename_i h1
    cases h1
    exact ⟨_, rfl, h⟩
  · exact h.elim
theorem MR.ret_inv {sn : Snap} {ρ : Env} {u : FrameMode} (h : MR sn ρ .ret u) : u = .returning := by
  cases u <;> simp [MR] at h
  rfl
theorem MR.mono {sn sn' : Snap} {ρ ρ' : Env} {m : DM} {u : FrameMode} (h : MR sn ρ m u) (hs : ∀ b o, sn b = some o → sn' b = some o) (hr : ∀ r p, ρ r = some p → ρ' r = some p) : MR sn' ρ' m u := by
  cases m with
  | ret => rw [h.ret_inv]; trivial
  | pan x =>
    obtain ⟨v, rfl, hv⟩ := h.pan_inv
    exact VR.mono hs hv hr
def ADef (P : Program) (g : FuncId) (args : List AV) (m : DM) (H : Heap) (Q : DM → Heap → Prop) : Prop :=
  ∀ (sn : Snap) (ρ : Env) (w : World) (vs : Array Value) (u : FrameMode), Rel sn ρ H w → VRs sn ρ args vs.toList → MR sn ρ m u →
    CallsD P g vs u w fun e u' w' => (∃ v, e = .returned v) ∧ ∃ sn' ρ' H' m', Rel sn' ρ' H' w' ∧ Ext sn ρ H w sn' ρ' H' w' ∧ MR sn' ρ' m' (settle u') ∧ Q m' H'
def DWp (P : Program) (n B : Nat) (fn : Func) (Q : CQ) (c : Code) (s : Ch) (H : Heap) : Prop :=
  ∀ (sn : Snap) (ρ : Env) (w : World) (a : Act), Rel sn ρ H w → SR sn ρ n s a.tmps → a.defers = [] → B ≤ H.length →
    c.wp P (bodyPostD P fn fun e w' => ∃ sn' ρ' H' out, OutR sn' ρ' out e ∧ Rel sn' ρ' H' w' ∧ ExtB B sn ρ H w sn' ρ' H' w' ∧ Q out H') a w
theorem postD_mono {P : Program} {fn : Func} {R R' : Ending → World → Prop} (h : ∀ e w, R e w → R' e w) : ∀ (ds : List Deferred) (tmps : Array Value) (u : FrameMode) (w : World), Leaves P fn tmps R ds u w → Leaves P fn tmps R' ds u w := by
  intro ds
  induction ds with
  | nil =>
    intro tmps u w hl
    cases u with
    | run => exact hl
    | returning => obtain ⟨v, h1, h2⟩ := hl; exact ⟨v, h1, h _ _ h2⟩
    | panicking c => exact h _ _ hl
  | cons d ds ih =>
    intro tmps u w hl
    obtain ⟨h1, fv, cap, f, args, h2, h3, h4⟩ := hl
    refine ⟨h1, fv, cap, f, args, h2, h3, h4.mono fun e u' w' he => ?_⟩
    cases e <;> first | exact ih _ _ _ he | exact h _ _ he
theorem DWp.seq {P : Program} {n B : Nat} {fn : Func} {Q : CQ} {x y : Code} {s : Ch} {H : Heap} (hok : codeOk n x = true) (h : cwp P n ⟨[], B, []⟩ x (thenX (DWp P n B fn Q y) (bodyX P fn.results.toList Q)) s H) : DWp P n B fn Q (.seq x y) s H := by
  intro sn ρ w a hR hs hd hB
  refine wp_seq (wp_mono ((cwp_sound x hok _ _ _ h).plain sn ρ w a hR hs hd hB) ?_)
  rintro e a' w' ⟨sn', ρ', H', s', ax, h1, h2, h3, h4, h5, h6⟩
  have h4' : a'.defers = [] := h4
  cases ax with
  | normal =>
    cases e <;> simp [AXR] at h1
    refine wp_mono (h6 sn' ρ' w' a' h2 h3 h4 h5.len) ?_
    intro e2 a2 w2 hp
    have hR2 : ∀ (e : Ending) (w3 : World), (∃ sn2 ρ2 H2 out, OutR sn2 ρ2 out e ∧ Rel sn2 ρ2 H2 w3 ∧ ExtB B sn' ρ' H' w' sn2 ρ2 H2 w3 ∧ Q out H2) → ∃ sn2 ρ2 H2 out, OutR sn2 ρ2 out e ∧ Rel sn2 ρ2 H2 w3 ∧ ExtB B sn ρ H w sn2 ρ2 H2 w3 ∧ Q out H2 :=
      fun e w3 ⟨sn2, ρ2, H2, out, g1, g2, g3, g4⟩ => ⟨sn2, ρ2, H2, out, g1, g2, h5.trans g3, g4⟩
    cases e2 <;> simp only [bodyPostD] at hp ⊢ <;> first | exact postD_mono hR2 _ _ _ _ hp | exact hR2 _ _ hp | exact hp
  | ret =>
    cases e <;> simp [AXR] at h1
    obtain ⟨v, cv, g1, g2, g3⟩ := packRes_ok h2 h3 fn h6
    simp only [Exit.then, bodyPostD, h4']
    exact ⟨cv, g1, sn', ρ', H', .ret v, g2, h2, h5, g3⟩
  | exit id => exact h6.elim
  | pan v =>
    cases e <;> simp [AXR] at h1
    rename_i ch
    simp only [Exit.then, bodyPostD, h4']
    refine ⟨sn', ρ', H', .pan v, ?_, h2, h5, h6⟩
    split at h1
    · rename_i e; cases e
    · rename_i e; cases e
    · rename_i e; cases e
    · rename_i e1 e2; cases e1; cases e2; exact h1
    · exact h1.elim
def postD (P : Program) (fn : Func) (Q : CQ) (s : Ch) (m : DM) (H : Heap) : Prop := match m with
  | .ret => packRes (aResults P s H fn.results.toList) (fun v => Q (.ret v) H)
  | .pan v => Q (.pan v) H
def lX (P : Program) (fn : Func) (Q : CQ) (g : FuncId) (da : List AV) : XQ := fun x s H => match x with
  | .normal => ADef P g da .ret H (postD P fn Q s)
  | .ret => ADef P g da .ret H (postD P fn Q s)
  | .pan v => ADef P g da (.pan v) H (postD P fn Q s)
  | .exit _ => False
def dF (P : Program) (n : Nat) (fn : Func) (Q : CQ) (rest : Code) (v : AV) (args : List AV) (s : Ch) (H : Heap) : Prop := match v with
  | .func (.func g) first cap => Enters P g ∧ ltL H.length (first ++ args ++ cap) = true ∧ ∀ d, cwp P n ⟨[d], H.length, []⟩ rest (lX P fn Q g (first ++ args ++ cap)) s H
  | _ => False
def dfX (P : Program) (n : Nat) (fn : Func) (Q : CQ) (rest : Code) (f : Operand) (l : List Operand) : XQ := fun x s H => match x with
  | .normal => dF P n fn Q rest (cev s f) (l.map (cev s)) s H
  | x => bodyX P fn.results.toList Q x s H
theorem VRs.cut {sn sn' : Snap} {ρ ρ' : Env} {m : Nat} {xs : List AV} {ys : List Value} (h : VRs sn ρ xs ys) (hl : ltL m xs = true) (hs : ∀ b o, sn b = some o → sn' b = some o) (hr : ∀ r p, r < m → ρ r = some p → ρ' r = some p) : VRs sn' ρ' xs ys :=
  ⟨h.1, fun k x y hx hy => VR.mono hs ((h.2 k x y hx hy).cut (ltL_get hl hx) hr) (fun _ _ h => h)⟩
theorem AXR.pan_out {sn : Snap} {ρ : Env} {v : AV} {ch : List PanicEntry} (h : AXR sn ρ (.pan v) (.panic ch)) : ∃ cv, ch = [{ v := cv, recovered := false }] ∧ VR sn ρ v cv := by
  unfold AXR at h
  split at h
  · rename_i e; cases e
  · rename_i e; cases e
  · rename_i e; cases e
  · rename_i e1 e2; cases e1; cases e2; exact ⟨_, rfl, h⟩
  · exact h.elim
theorem leaves_of_def {P : Program} {B : Nat} {fn : Func} {Q : CQ} {g : FuncId} {da : List AV} {fv : Fn} {cap dargs vs : Array Value} {s : Ch} {m : DM} {u : FrameMode} {sn0 sn : Snap} {ρ0 ρ : Env} {H0 H : Heap} {w0 w : World} {a : Act} (hu : u ≠ .run)
    (hi : ∀ w, (invoke (.fn fv cap) dargs).run P w = .ok (.enter g vs) w) (hR : Rel sn ρ H w) (hs : SR sn ρ fn.ntmps s a.tmps) (hv : VRs sn ρ da vs.toList) (hm : MR sn ρ m u) (hE : ExtB B sn0 ρ0 H0 w0 sn ρ H w) (h : ADef P g da m H (postD P fn Q s)) :
    Leaves P fn a.tmps (fun e w' => ∃ sn' ρ' H' out, OutR sn' ρ' out e ∧ Rel sn' ρ' H' w' ∧ ExtB B sn0 ρ0 H0 w0 sn' ρ' H' w' ∧ Q out H') [{ target := .fn fv cap, args := dargs }] u w := by
  refine leaves_cons hu (hi w) ((h sn ρ w vs u hR hv hm).mono ?_)
  rintro e u' w' ⟨⟨v, rfl⟩, sn', ρ', H', m', h1, h2, h3, h4⟩
  have hs' := hs.mono h2.snap h2.env
  have hE' := hE.trans (h2.b hE.len)
  cases m' with
  | ret =>
    simp only [h3.ret_inv]
    obtain ⟨x, cv, g1, g2, g3⟩ := packRes_ok h1 hs' fn h4
    exact ⟨cv, g1, sn', ρ', H', .ret x, g2, h1, hE', g3⟩
  | pan x =>
    obtain ⟨cv, hcv, hx⟩ := h3.pan_inv
    simp only [hcv]
    exact ⟨sn', ρ', H', .pan x, hx, h1, hE', h4⟩
theorem DWp.defer {P : Program} {n B : Nat} {fn : Func} {Q : CQ} {id : Nat} {l : List Oper} {rest : Code} {f : Operand} {as : List Operand} {ts : Array TypeId} {ty : TypeId} {pos : String} {af : Array Edge} {s : Ch} {H : Heap} (hn : Nat.beq fn.ntmps n = true)
    (hl : l.getLast? = some ⟨none, .defer ⟨.value f, as.toArray, ts⟩, ty, pos, af, none⟩) (hok1 : l.toArray.all (dstOk n) = true) (hok2 : codeOk n rest = true) (h : cops P l.toArray l.dropLast (dfX P n fn Q rest f as) s H) :
    DWp P n B fn Q (.seq (.region id l.toArray false) rest) s H := by
  have hn := Nat.eq_of_beq_eq_true hn
  subst hn
  intro sn ρ w a hR hs hd hB
  have hne : l ≠ [] := fun e => by subst e; cases hl
  have hpos : 0 < l.length := List.length_pos_iff.2 hne
  refine wp_seq (wp_region ?_)
  have hr : List.range l.toArray.size = List.range' 0 (l.length - 1) ++ [l.length - 1] := by
    have e : l.toArray.size = (l.length - 1) + 1 := by simp; omega
    rw [e, List.range_succ, List.range_eq_range']
  rw [hr]
  refine wpOps_append ?_
  have h0 : cops P l.toArray ((l.toArray.toList.drop 0).take (l.length - 1)) (dfX P fn.ntmps fn Q rest f as) s H := by
    simpa [List.dropLast_eq_take] using h
  have := cops_part (D := ⟨[], B, []⟩) hok1 (l.length - 1) 0 s H (by simp) h0 sn ρ w a hR hs hd hB
  refine wpOps_mono ?_ _ _ _ this
  rintro e a' w' ⟨sn', ρ', H', s', x, h1, h2, h3, h4, h5, h6⟩
  have h4' : a'.defers = [] := h4
  cases x with
  | normal =>
    cases e <;> simp [AXR] at h1
    have hlast : l.toArray[l.length - 1]? = some ⟨none, .defer ⟨.value f, as.toArray, ts⟩, ty, pos, af, none⟩ := by
      rw [List.getElem?_toArray, ← List.getLast?_eq_getElem?]; exact hl
    simp only [wpOps, hlast]
    have hw : Region.wanted (⟨none, .defer ⟨.value f, as.toArray, ts⟩, ty, pos, af, none⟩ : Oper) (yielded l.toArray a'.tmps) = true := by simp [Region.wanted]
    rw [if_pos hw]
    have h6' : dF P fn.ntmps fn Q rest (cev s' f) (as.map (cev s')) s' H' := h6
    unfold dF at h6'
    split at h6'
    · rename_i g first cap hf
      obtain ⟨hEn, hlt, hk⟩ := h6'
      have hfv := cev_ok h2.gl h3 f
      rw [hf] at hfv
      generalize hcf : a'.eval f = cf at hfv
      obtain ⟨us, vs, rfl, e1, e2⟩ := hfv.func_inv
      have hargs := evs_ok h2.gl h3 as.toArray
      have hall : VRs sn' ρ' (first ++ as.map (cev s') ++ cap) (us ++ as.toArray.map a'.eval ++ vs).toList := by
        have := (e1.append hargs).append e2
        simpa [evs] using this
      refine .inl ?_
      have hrun : (execOp a'.eval ⟨none, .defer ⟨.value f, as.toArray, ts⟩, ty, pos, af, none⟩).run P w' = .ok (.defer { target := .fn (.func g) vs, args := us ++ as.toArray.map a'.eval }) w' := by
        simp [execOp, resolve, hcf, Deferred.ofValue]
      unfold Oper.wp
      rw [hrun]
      simp only [Oper.upon, h4', Act.put, Exit.then]
      have hi : ∀ w, (invoke (.fn (.func g) vs) (us ++ as.toArray.map a'.eval)).run P w = .ok (.enter g (us ++ as.toArray.map a'.eval ++ vs)) w := fun w => by
        simp only [invoke]; exact hEn _ _
      have hd2 := hk { target := .fn (.func g) vs, args := us ++ as.toArray.map a'.eval }
      have := (cwp_sound rest hok2 _ _ _ hd2).plain sn' ρ' w' { a' with defers := [{ target := .fn (.func g) vs, args := us ++ as.toArray.map a'.eval }] } h2 h3 rfl (Nat.le_refl _)
      refine wp_mono this ?_
      rintro e2 a2 w2 ⟨sn2, ρ2, H2, s2, x2, g1, g2, g3, g4, g5, g6⟩
      have g4' : a2.defers = [{ target := .fn (.func g) vs, args := us ++ as.toArray.map a'.eval }] := g4
      have hda : VRs sn2 ρ2 (first ++ as.map (cev s') ++ cap) (us ++ as.toArray.map a'.eval ++ vs).toList := hall.cut hlt g5.snap (fun r p hr hp => by rw [g5.env r hr]; exact hp)
      have hE : ExtB B sn ρ H w sn2 ρ2 H2 w2 := h5.trans ⟨fun r hr => g5.env r (Nat.lt_of_lt_of_le hr h5.len), Nat.le_trans h5.len g5.len, g5.snap, g5.below, g5.os, g5.tape, g5.output, g5.frame, g5.newsnap, g5.newown⟩
      cases x2 with
      | normal =>
        cases e2 <;> simp [AXR] at g1
        simp only [bodyPostD, g4']
        exact leaves_of_def (by simp) hi g2 g3 hda (m := .ret) trivial hE g6
      | ret =>
        cases e2 <;> simp [AXR] at g1
        simp only [bodyPostD, g4']
        exact leaves_of_def (by simp) hi g2 g3 hda (m := .ret) trivial hE g6
      | exit id => exact g6.elim
      | pan v =>
        cases e2 <;> simp [AXR] at g1
        rename_i ch
        obtain ⟨cv, rfl, hcv⟩ := AXR.pan_out (v := v) (ch := ch) g1
        simp only [bodyPostD, g4']
        exact leaves_of_def (by simp) hi g2 g3 hda (m := .pan v) hcv hE g6
    · exact h6'.elim
  | ret =>
    cases e <;> simp [AXR] at h1
    obtain ⟨v, cv, g1, g2, g3⟩ := packRes_ok h2 h3 fn h6
    simp only [Exit.then, bodyPostD, h4']
    exact ⟨cv, g1, sn', ρ', H', .ret v, g2, h2, h5, g3⟩
  | exit id => exact h6.elim
  | pan v =>
    cases e <;> simp [AXR] at h1
    rename_i ch
    obtain ⟨cv, rfl, hcv⟩ := AXR.pan_out (v := v) (ch := ch) h1
    simp only [Exit.then, bodyPostD, h4']
    exact ⟨sn', ρ', H', .pan v, hcv, h2, h5, h6⟩
theorem start_ok {sn : Snap} {ρ : Env} {n : Nat} {args : List AV} {vs : Array Value} (hv : VRs sn ρ args vs.toList) (hn : args.length ≤ n) : SR sn ρ n (argsCh args 0 .nil) (vs ++ Array.replicate (n - vs.size) undef) := by
  have hlen : vs.size = args.length := by have := hv.1; simpa using this
  refine ⟨by simp; omega, fun t => ?_⟩
  rw [argsCh_get]
  split
  · rename_i hlt
    have hlt' : t < vs.size := by omega
    have e1 : (vs ++ Array.replicate (n - vs.size) undef).getD t undef = vs[t] := by
      rw [Array.getD_eq_getD_getElem?, Array.getElem?_append, if_pos hlt', Array.getElem?_eq_getElem hlt']; rfl
    rw [e1]
    have hlt2 : t < args.length := by omega
    simp only [Nat.sub_zero, List.getElem?_eq_getElem hlt2, Option.getD_some]
    exact hv.2 t _ _ (List.getElem?_eq_getElem hlt2) (by simp [hlt'])
  · exact .any _ _
theorem ExtB.ext {sn sn' : Snap} {ρ ρ' : Env} {H H' : Heap} {w w' : World} (hR : Rel sn ρ H w) (h5' : ExtB H.length sn ρ H w sn' ρ' H' w') : Ext sn ρ H w sn' ρ' H' w' := ⟨fun r p hp => by
    have hr : r < H.length := by
      rcases Nat.lt_or_ge r H.length with h | h
      · exact h
      · rw [hR.top r h] at hp; cases hp
    rw [h5'.env r hr]; exact hp, h5'.env, h5'.len, h5'.snap, h5'.below, h5'.os, h5'.tape, h5'.output, h5'.frame, h5'.newsnap, h5'.newown⟩
theorem ACalls.introD {P : Program} {f : FuncId} {fn : Func} {c : Code} {n : Nat} {args : List AV} {H : Heap} {Q : CQ} (hf : P.funcs[f]? = some fn) (hb : fn.body = some c) (hnt : Nat.beq fn.ntmps n = true) (hn : Nat.ble args.length n = true)
    (h : DWp P n H.length fn Q c (argsCh args 0 .nil) H) : ACalls P f args H Q := by
  have hnt := Nat.eq_of_beq_eq_true hnt
  subst hnt
  intro sn ρ w vs hR hv
  refine calls_of_wp_defers hf hb ?_
  refine wp_mono (h sn ρ w _ hR (start_ok hv (Nat.le_of_ble_eq_true hn)) rfl (Nat.le_refl _)) ?_
  intro e a w1 hp
  have hR2 : ∀ (e : Ending) (w3 : World), (∃ sn2 ρ2 H2 out, OutR sn2 ρ2 out e ∧ Rel sn2 ρ2 H2 w3 ∧ ExtB H.length sn ρ H w sn2 ρ2 H2 w3 ∧ Q out H2) → ∃ sn2 ρ2 H2 out, OutR sn2 ρ2 out e ∧ Rel sn2 ρ2 H2 w3 ∧ Ext sn ρ H w sn2 ρ2 H2 w3 ∧ Q out H2 :=
    fun e w3 ⟨sn2, ρ2, H2, out, g1, g2, g3, g4⟩ => ⟨sn2, ρ2, H2, out, g1, g2, g3.ext hR, g4⟩
  cases e <;> simp only [bodyPostD] at hp ⊢ <;> first | exact postD_mono hR2 _ _ _ _ hp | exact hR2 _ _ hp | exact hp
theorem cops_partS {P : Program} {n : Nat} {D : Fx} {ops : Array Oper} {Q : XQ} {cs : List Frame} (hd : ops.all (dstOk n) = true) {K : Exit → Act → List Frame → World → Prop} {sn0 : Snap} {ρ0 : Env} {H0 : Heap} {w0 : World}
    (hK : ∀ e a' w', (∃ sn' ρ' H' s' x, AXR sn' ρ' x e ∧ Rel sn' ρ' H' w' ∧ SR sn' ρ' n s' a'.tmps ∧ a'.defers = D.D ∧ ExtB D.B sn0 ρ0 H0 w0 sn' ρ' H' w' ∧ Q x s' H') → K e a' cs w') :
    ∀ (m k : Nat) (s : Ch) (H : Heap), k + m ≤ ops.size → cops P ops ((ops.toList.drop k).take m) Q s H → ∀ (sn : Snap) (ρ : Env) (w : World) (a : Act), Rel sn ρ H w → SR sn ρ n s a.tmps → a.defers = D.D → ExtB D.B sn0 ρ0 H0 w0 sn ρ H w → wpOpsS P ops K (List.range' k m) a cs w := by
  intro m
  induction m with
  | zero =>
    intro k s H hk h sn ρ w a hR hs hdf hE
    exact hK _ _ _ ⟨sn, ρ, H, s, .normal, trivial, hR, hs, hdf, hE, h⟩
  | succ m ih =>
    intro k s H hk h sn ρ w a hR hs hdf hE
    have hlt : k < ops.size := by omega
    have hcons : (ops.toList.drop k).take (m + 1) = ops[k] :: (ops.toList.drop (k + 1)).take m := by
      rw [List.drop_eq_getElem_cons (by simpa using hlt)]; simp
    rw [hcons] at h
    have hok : ops[k]? = some ops[k] := Array.getElem?_eq_getElem hlt
    have hdk : dstOk n ops[k] = true := by
      rw [Array.all_eq_true] at hd
      exact hd k hlt
    have run : (aop P s H ops[k].op).k P H (fun v H' => cops P ops ((ops.toList.drop (k + 1)).take m) Q (s.put? ops[k].dst v) H') (fun v H' => Q (.pan v) s H') →
        ops[k].upon P a (fun a' w' => wpOpsS P ops K (List.range' (k + 1) m) a' cs w') (fun e a' w' => K e a' cs w') ((execOp a.eval ops[k]).run P w) := by
      intro hk'
      refine upon_ok hR ?_ ?_ _ (aop_ok hR hs ops[k] (AR.enters_of_k hk')) hk'
      · intro sn' ρ' H' w' v cv q1 q2 hv hc
        exact ih (k + 1) _ _ (by omega) hc sn' ρ' w' _ q1 ((hs.mono q2.snap q2.env).put? hdk hv) (by rw [put_defers]; exact hdf) (hE.trans (q2.b hE.len))
      · intro sn' ρ' H' w' v cv q1 q2 hv hc
        exact hK _ _ _ ⟨sn', ρ', H', s, .pan v, hv, q1, hs.mono q2.snap q2.env, hdf, hE.trans (q2.b hE.len), hc⟩
    have run2 : (aop P s H ops[k].op).k P H (fun v H' => cops P ops ((ops.toList.drop (k + 1)).take m) Q (s.put? ops[k].dst v) H') (fun v H' => Q (.pan v) s H') →
        (match (execOp a.eval ops[k]).run P w with
        | .ok .recover w' =>
          match recoverD cs with
          | some (v, cs') => wpOpsS P ops K (List.range' (k + 1) m) (a.put ops[k].dst v) cs' w'
          | none => wpOpsS P ops K (List.range' (k + 1) m) (a.put ops[k].dst .nilIface) cs w'
        | r => ops[k].upon P a (fun a' w' => wpOpsS P ops K (List.range' (k + 1) m) a' cs w') (fun e a' w' => K e a' cs w') r) := by
      intro hk'
      have := run hk'
      generalize (execOp a.eval ops[k]).run P w = r at this ⊢
      split
      · exact this.elim
      · exact this
    rw [List.range'_succ]
    simp only [wpOpsS, hok]
    simp only [cops] at h
    split at h
    · rename_i hg
      have hw : Region.wanted ops[k] (yielded ops a.tmps) = true := by simp [Region.wanted, hg]
      rw [if_pos hw]
      exact run2 h
    · rename_i j want hg
      unfold gk at h
      split at h
      · rename_i b hb
        have hy := gval_ok hs hb
        split at h
        · rename_i hbw
          have hw : Region.wanted ops[k] (yielded ops a.tmps) = true := by simp [Region.wanted, hg, hy, hbw]
          rw [if_pos hw]
          exact run2 h
        · rename_i hbw
          have hw : ¬ Region.wanted ops[k] (yielded ops a.tmps) = true := by simp [Region.wanted, hg, hy, hbw]
          rw [if_neg hw]
          exact ih (k + 1) _ _ (by omega) h sn ρ w (a.put ops[k].dst undef) hR (hs.put? hdk (undef_ok _ _)) (by rw [put_defers]; exact hdf) hE
      · rename_i hb
        have hw : ¬ Region.wanted ops[k] (yielded ops a.tmps) = true := by simp [Region.wanted, hg, gval_undef hs hb]
        rw [if_neg hw]
        exact ih (k + 1) _ _ (by omega) h sn ρ w (a.put ops[k].dst undef) hR (hs.put? hdk (undef_ok _ _)) (by rw [put_defers]; exact hdf) hE
      · exact h.elim
def dQX (Q : DM → Heap → Prop) : XQ := fun x s H => match x with
  | .normal => Q .ret H
  | .ret => Q .ret H
  | _ => False
def DM.rv : DM → AV
  | .ret => .nilif
  | .pan v => v
theorem ADef.intro {P : Program} {g : FuncId} {fn : Func} {id : Nat} {t0 : Tmp} {ts : Array TypeId} {ty : TypeId} {pos : String} {af : Array Edge} {os : List Oper} {rest : Code} {n : Nat} {args : List AV} {m : DM} {H : Heap} {Q : DM → Heap → Prop}
    (hf : P.funcs[g]? = some fn) (hb : fn.body = some (.seq (.region id (⟨some t0, .call ⟨.builtin .recover, #[], ts⟩, ty, pos, af, none⟩ :: os).toArray false) rest)) (hrs : fn.results = #[]) (hnt : Nat.beq fn.ntmps n = true) (hn : Nat.ble args.length n = true)
    (hok : codeOk n (.seq (.region id (⟨some t0, .call ⟨.builtin .recover, #[], ts⟩, ty, pos, af, none⟩ :: os).toArray false) rest) = true)
    (h : cops P (⟨some t0, .call ⟨.builtin .recover, #[], ts⟩, ty, pos, af, none⟩ :: os).toArray os (thenX (cwp P n ⟨[], H.length, []⟩ rest (dQX Q)) (dQX Q)) ((argsCh args 0 .nil).put t0 m.rv) H) : ADef P g args m H Q := by
  have hnt := Nat.eq_of_beq_eq_true hnt
  subst hnt
  simp only [codeOk, Bool.and_eq_true] at hok
  intro sn ρ w vs u hR hv hm
  refine callsD_of_wpS hf hb fun c₀ cs hu => ?_
  have hs := start_ok hv (Nat.le_of_ble_eq_true hn)
  have ht0 : t0 < fn.ntmps := by
    have := hok.1.1
    simp [dstOk] at this
    exact this.1
  refine wpS_seq (wpS_region ?_)
  generalize hops : (⟨some t0, .call ⟨.builtin .recover, #[], ts⟩, ty, pos, af, none⟩ :: os : List Oper).toArray = ops at *
  have h0 : ops[0]? = some ⟨some t0, .call ⟨.builtin .recover, #[], ts⟩, ty, pos, af, none⟩ := by rw [← hops]; rfl
  have hsz : ops.size = os.length + 1 := by rw [← hops]; simp
  have hl : ops.toList.drop 1 = os := by rw [← hops]; simp
  have hr : List.range ops.size = 0 :: List.range' 1 os.length := by
    rw [hsz, List.range_eq_range', List.range'_succ]
  rw [hr]
  have key : ∀ (cv : Value) (u' : FrameMode), VR sn ρ m.rv cv → settle u' = .returning →
      wpOpsS P ops (Exit.thenS (Code.wpS P rest (bodyPostS P fn c₀ cs fun e u' w' => (∃ v, e = .returned v) ∧ ∃ sn' ρ' H' m', Rel sn' ρ' H' w' ∧ Ext sn ρ H w sn' ρ' H' w' ∧ MR sn' ρ' m' (settle u') ∧ Q m' H'))
        (bodyPostS P fn c₀ cs fun e u' w' => (∃ v, e = .returned v) ∧ ∃ sn' ρ' H' m', Rel sn' ρ' H' w' ∧ Ext sn ρ H w sn' ρ' H' w' ∧ MR sn' ρ' m' (settle u') ∧ Q m' H'))
        (List.range' 1 os.length) ({ tmps := vs ++ Array.replicate (fn.ntmps - vs.size) undef, defers := [] : Act }.put (some t0) cv) ({ c₀ with mode := u' } :: cs) w := by
    intro cv u' hcv hset
    have fin : ∀ (e : Exit) (a' : Act) (w' : World), (e = .normal ∨ e = .ret) → a'.defers = [] → (∃ sn' ρ' H', Rel sn' ρ' H' w' ∧ ExtB H.length sn ρ H w sn' ρ' H' w' ∧ Q .ret H') →
        bodyPostS P fn c₀ cs (fun e u' w' => (∃ v, e = .returned v) ∧ ∃ sn' ρ' H' m', Rel sn' ρ' H' w' ∧ Ext sn ρ H w sn' ρ' H' w' ∧ MR sn' ρ' m' (settle u') ∧ Q m' H') e a' ({ c₀ with mode := u' } :: cs) w' := by
      rintro e a' w' he hd ⟨sn', ρ', H', g1, g2, g3⟩
      have hres : ∃ v, (results fn a'.tmps).run P w' = .ok v w' := by
        exact ⟨_, by simp [results, hrs]; rfl⟩
      obtain ⟨v, hv⟩ := hres
      rcases he with rfl | rfl <;> exact ⟨hd, u', rfl, v, hv, ⟨v, rfl⟩, sn', ρ', H', .ret, g1, g2.ext hR, by rw [hset]; trivial, g3⟩
    refine cops_partS (D := ⟨[], H.length, []⟩) (Q := thenX (cwp P fn.ntmps ⟨[], H.length, []⟩ rest (dQX Q)) (dQX Q)) hok.1.1 (sn0 := sn) (ρ0 := ρ) (H0 := H) (w0 := w) ?_ os.length 1 _ H (by omega) (by rw [hl, List.take_length]; exact h) sn ρ w _ hR (hs.put ht0 hcv) (by rw [put_defers]) (.refl (Nat.le_refl _))
    rintro e a' w' ⟨sn', ρ', H', s', x, h1, h2, h3, h4, h5, h6⟩
    have h4' : a'.defers = [] := h4
    cases x with
    | normal =>
      cases e <;> simp [AXR] at h1
      refine wpS_of_wp (wp_mono ((cwp_sound rest hok.2 _ _ _ h6).plain sn' ρ' w' a' h2 h3 h4 h5.len) ?_)
      rintro e2 a2 w2 ⟨sn2, ρ2, H2, s2, x2, g1, g2, g3, g4, g5, g6⟩
      cases x2 with
      | normal =>
        cases e2 <;> simp [AXR] at g1
        exact fin _ _ _ (.inl rfl) g4 ⟨sn2, ρ2, H2, g2, h5.trans g5, g6⟩
      | ret =>
        cases e2 <;> simp [AXR] at g1
        exact fin _ _ _ (.inr rfl) g4 ⟨sn2, ρ2, H2, g2, h5.trans g5, g6⟩
      | exit id => exact g6.elim
      | pan v => exact g6.elim
    | ret =>
      cases e <;> simp [AXR] at h1
      exact fin _ _ _ (.inr rfl) h4' ⟨sn', ρ', H', h2, h5, h6⟩
    | exit id => exact h6.elim
    | pan v => exact h6.elim
  simp only [wpOpsS, h0]
  rw [if_pos (by simp [Region.wanted])]
  have hrun : ∀ (a : Act), (execOp a.eval ⟨some t0, .call ⟨.builtin .recover, #[], ts⟩, ty, pos, af, none⟩).run P w = .ok .recover w := fun a => by
    simp [execOp, resolve, invoke, builtin]
  rw [hrun]
  simp only
  cases m with
  | ret =>
    have := hm.ret_inv
    subst this
    have hrec : recoverD (c₀ :: cs) = none := by simp [recoverD, hu]
    rw [hrec]
    have hc : c₀ = { c₀ with mode := .returning } := by rw [← hu]
    have := key .nilIface .returning (.nilif _) rfl
    rw [← hc] at this
    exact this
  | pan v =>
    obtain ⟨cv, rfl, hcv⟩ := hm.pan_inv
    have hrec : recoverD (c₀ :: cs) = some (cv, { c₀ with mode := .panicking [{ v := cv, recovered := true }] } :: cs) := by simp [recoverD, hu]
    rw [hrec]
    exact key cv _ hcv rfl
end Go.AM
set_option linter.unusedVariables false
set_option linter.unusedSimpArgs false
namespace Go.AM
section
variable {P : Program} {n : Nat} {fn : Func} {Q : CQ} {rest : Code} {f : Operand} {l : List Operand} {s : Ch} {H : Heap} {v : AV} {g : FuncId} {da first cap args : List AV} {R : DM → Heap → Prop}
theorem dfX_normal : dfX P n fn Q rest f l .normal s H = dF P n fn Q rest (cev s f) (l.map (cev s)) s H := id rfl
theorem dfX_pan : dfX P n fn Q rest f l (.pan v) s H = Q (.pan v) H := id rfl
theorem dF_func : dF P n fn Q rest (.func (.func g) first cap) args s H = (Enters P g ∧ ltL H.length (first ++ args ++ cap) = true ∧ ∀ d, cwp P n ⟨[d], H.length, []⟩ rest (lX P fn Q g (first ++ args ++ cap)) s H) := id rfl
theorem lX_normal : lX P fn Q g da .normal s H = ADef P g da .ret H (postD P fn Q s) := id rfl
theorem lX_ret : lX P fn Q g da .ret s H = ADef P g da .ret H (postD P fn Q s) := id rfl
theorem lX_pan : lX P fn Q g da (.pan v) s H = ADef P g da (.pan v) H (postD P fn Q s) := id rfl
theorem postD_ret : postD P fn Q s .ret H = packRes (aResults P s H fn.results.toList) (fun v => Q (.ret v) H) := id rfl
theorem postD_pan : postD P fn Q s (.pan v) H = Q (.pan v) H := id rfl
theorem dQX_normal : dQX R .normal s H = R .ret H := id rfl
theorem dQX_ret : dQX R .ret s H = R .ret H := id rfl
theorem rv_ret : DM.rv .ret = .nilif := id rfl
theorem rv_pan : DM.rv (.pan v) = v := id rfl
theorem ltL_nil {m : Nat} : ltL m [] = true := id rfl
theorem ltL_cons {m : Nat} {x : AV} {xs : List AV} : ltL m (x :: xs) = (x.lt m && ltL m xs) := id rfl
theorem lt_ptr {m r i j : Nat} : (AV.ptr r i j).lt m = decide (r < m) := id rfl
theorem ADef.mono {m : DM} {R' : DM → Heap → Prop} (h : ADef P g da m H R) (hr : ∀ m H, R m H → R' m H) : ADef P g da m H R' := fun sn ρ w vs u hR hv hm =>
  (h sn ρ w vs u hR hv hm).mono fun e u' w' ⟨h1, sn', ρ', H', m', g1, g2, g3, g4⟩ => ⟨h1, sn', ρ', H', m', g1, g2, g3, hr _ _ g4⟩
end
attribute [go_sem] dfX_normal dfX_pan dF_func lX_normal lX_ret lX_pan postD_ret postD_pan dQX_normal dQX_ret rv_ret rv_pan ltL_nil ltL_cons lt_ptr List.dropLast_cons₂ List.dropLast_singleton
end Go.AM
set_option linter.unusedVariables false
set_option linter.unusedSimpArgs false
namespace Go.AM
theorem loop_fam {P : Program} {n : Nat} {D : Fx} {body : Code} {Q : XQ} {s : Ch} {H : Heap} {A : Type} (st : A → Ch) (hp : A → Heap) (μ : A → Nat) (inv : A → Prop) (a0 : A) (hok : codeOk n body = true) (h0 : inv a0) (hw : Wk D.B n s H (st a0) (hp a0))
    (step : ∀ a, inv a → ∀ K : KQ, (∀ a' s' H', inv a' → μ a' < μ a → Wk D.B n s' H' (st a') (hp a') → K s' H') → cwp P n D body (thenX K Q) (st a) (hp a)) : cwp P n D (.loop body) Q s H := by
  have key : ∀ (k : Nat) (a : A) (s : Ch) (H : Heap), μ a < k → inv a → Wk D.B n s H (st a) (hp a) → rounds (SWp P n D body) Q k s H := by
    intro k
    induction k with
    | zero => intro a s H h; exact absurd h (Nat.not_lt_zero _)
    | succ k ih =>
      intro a s H hlt hi hw
      exact rounds_wk hw (rounds_step hok (step a hi _ fun a' s' H' hi' hm hw' => ih a' s' H' (by omega) hi' hw'))
  rw [w_loop]
  exact ⟨μ a0 + 1, key _ a0 s H (Nat.lt_succ_self _) h0 hw⟩
theorem Wk.slots' {B n : Nat} {s s' : Ch} {H H' : Heap} (e : H = H') (h : wkS s' s) : Wk B n s H s' H' := e ▸ Wk.slots h
theorem seq_cut {P : Program} {n : Nat} {D : Fx} {x y : Code} {Q : XQ} {s : Ch} {H : Heap} {A : Type} (st : A → Ch) (hp : A → Heap) (inv : A → Prop) (hok : codeOk n y = true)
    (h1 : ∀ K : KQ, (∀ a s' H', inv a → Wk D.B n s' H' (st a) (hp a) → K s' H') → cwp P n D x (thenX K Q) s H) (h2 : ∀ a, inv a → cwp P n D y Q (st a) (hp a)) : seqD true P n D x y Q s H := by
  unfold seqD
  rw [if_pos rfl]
  refine ⟨fun s' H' => ∃ a, inv a ∧ Wk D.B n s' H' (st a) (hp a), h1 _ fun a s' H' hi hw => ⟨a, hi, hw⟩, ?_⟩
  rintro s' H' ⟨a, hi, hw⟩
  exact SWp.wk hw (cwp_sound y hok _ _ _ (h2 a hi))
end Go.AM
namespace Go.AM
mutual
def AV.small : AV → Prop
  | .view _ _ xs => xs.length ≤ maxLen ∧ smallR xs
  | .cptr row _ => smallL row
  | .sl _ _ len _ => len ≤ maxLen
  | .agg cs => smallL cs
  | .tuple cs => smallL cs
  | .iface _ v => v.small
  | _ => True
def smallL : List AV → Prop
  | [] => True
  | x :: xs => x.small ∧ smallL xs
def smallR : List (List AV) → Prop
  | [] => True
  | x :: xs => smallL x ∧ smallR xs
end
theorem smallL_of : ∀ {xs : List AV}, (∀ (k : Nat) x, xs[k]? = some x → x.small) → smallL xs
  | [], _ => by simp [smallL]
  | x :: xs, h => by
    simp only [smallL]
    exact ⟨h 0 x rfl, smallL_of fun k y hy => h (k + 1) y (by simpa using hy)⟩
theorem smallR_of : ∀ {xs : List (List AV)}, (∀ (k : Nat) row, xs[k]? = some row → smallL row) → smallR xs
  | [], _ => by simp [smallR]
  | x :: xs, h => by
    simp only [smallR]
    exact ⟨h 0 x rfl, smallR_of fun k y hy => h (k + 1) y (by simpa using hy)⟩
theorem VR.small {sn : Snap} {ρ : Env} {x : AV} {v : Value} (h : VR sn ρ x v) : x.small := by
  induction h with
  | view ρ full sz xs a b o c vs hl hm hf ha hz hc ho hr ih =>
    simp only [AV.small]
    exact ⟨Nat.le_trans hl hm, smallR_of fun i row hi => smallL_of fun j x hj => ih i row hi j x hj⟩
  | cptr ρ row j b o vs hc ho hr ih =>
    simp only [AV.small]
    exact smallL_of fun k x hk => ih k x hk
  | sl ρ r off len c cap ad p h ha hl hm hn hc => simp only [AV.small]; omega
  | agg ρ xs ys hs h ih =>
    simp only [AV.small]
    exact smallL_of fun k x hk => by
      have : k < ys.size := by rw [hs]; exact (List.getElem?_eq_some_iff.1 hk).1
      exact ih k x _ hk (Array.getElem?_eq_getElem this)
  | tuple ρ xs ys hs h ih =>
    simp only [AV.small]
    exact smallL_of fun k x hk => by
      have : k < ys.size := by rw [hs]; exact (List.getElem?_eq_some_iff.1 hk).1
      exact ih k x _ hk (Array.getElem?_eq_getElem this)
  | iface ρ t x y h ih => simp only [AV.small]; exact ih
  | _ => simp [AV.small]
theorem ACalls.small {P : Program} {f : FuncId} {args : List AV} {H : Heap} {Q : CQ} (h : smallL args → ACalls P f args H Q) : ACalls P f args H Q := fun sn ρ w vs hR hv =>
  h (smallL_of fun k x hk => by
    have : k < vs.toList.length := by rw [hv.1]; exact (List.getElem?_eq_some_iff.1 hk).1
    exact (hv.2 k x _ hk (List.getElem?_eq_getElem this)).small) sn ρ w vs hR hv
theorem SWp.small {P : Program} {n : Nat} {D : Fx} {c : Code} {Q : XQ} {s : Ch} {H : Heap} (t : Tmp) (h : (s.get t).small → SWp P n D c Q s H) : SWp P n D c Q s H := fun ro sn ρ w a hR hs hd hB => h (hs.get t).small ro sn ρ w a hR hs hd hB
end Go.AM
set_option linter.unusedVariables false
set_option linter.unusedSimpArgs false
namespace Go.AM
mutual
def AV.wk : AV → AV
  | .view _ sz xs => .view false sz (wkR xs)
  | .cptr row j => .cptr (wkL row) j
  | .sl r off len _ => .sl r off len none
  | .agg cs => .agg (wkL cs)
  | .tuple cs => .tuple (wkL cs)
  | .iface t v => .iface t v.wk
  | .func fn xs ys => .func fn (wkL xs) (wkL ys)
  | .any => .any | .bool b => .bool b | .int k n => .int k n | .str s => .str s | .nilptr => .nilptr | .ptr r i j => .ptr r i j
  | .nilchan => .nilchan | .chan r => .chan r | .yfn r => .yfn r | .rsl r i j n => .rsl r i j n | .nilmap => .nilmap | .map r => .map r | .nilfunc => .nilfunc | .nilif => .nilif
def wkL : List AV → List AV
  | [] => []
  | x :: xs => x.wk :: wkL xs
def wkR : List (List AV) → List (List AV)
  | [] => []
  | x :: xs => wkL x :: wkR xs
end
theorem wkL_map : ∀ (xs : List AV), wkL xs = xs.map AV.wk
  | [] => rfl
  | x :: xs => by simp only [wkL, wkL_map xs, List.map_cons]
theorem wkR_map : ∀ (xs : List (List AV)), wkR xs = xs.map wkL
  | [] => rfl
  | x :: xs => by simp only [wkR, wkR_map xs, List.map_cons]
def Ch.wk : Ch → Ch
  | .nil => .nil
  | .put s d v => .put s.wk d v.wk
theorem Ch.get_wk : ∀ (s : Ch) (t : Nat), s.wk.get t = (s.get t).wk
  | .nil, t => rfl
  | .put s d v, t => by
    simp only [Ch.wk, Ch.get, Ch.get_wk s]
    split <;> rfl
def Blk.wk : Blk → Blk
  | .dead => .dead
  | .rows sz xs => .rows sz (wkR xs)
  | .amap es => .amap (es.map fun e => (e.1, e.2.wk))
  | .raw q => .raw q
  | .lrec q n s => .lrec q n s.wk
def Out.wk : Out → Out
  | .ret v => .ret v.wk
  | .pan v => .pan v.wk
theorem one_wk {x : AV} : x.wk.one = x.one := by cases x <;> simp [AV.wk, AV.one]
theorem wkL_get {xs : List AV} {k : Nat} {x : AV} (h : (wkL xs)[k]? = some x) : ∃ y, xs[k]? = some y ∧ x = y.wk := by
  rw [wkL_map, List.getElem?_map, Option.map_eq_some_iff] at h
  obtain ⟨y, hy, e⟩ := h
  exact ⟨y, hy, e.symm⟩
theorem wkR_get {xs : List (List AV)} {k : Nat} {x : List AV} (h : (wkR xs)[k]? = some x) : ∃ y, xs[k]? = some y ∧ x = wkL y := by
  rw [wkR_map, List.getElem?_map, Option.map_eq_some_iff] at h
  obtain ⟨y, hy, e⟩ := h
  exact ⟨y, hy, e.symm⟩
theorem VR.wk {sn : Snap} {ρ : Env} {x : AV} {v : Value} (h : VR sn ρ x v) : VR sn ρ x.wk v := by
  induction h with
  | view ρ full sz xs a b o c vs hl hm hf ha hz hc ho hr ih =>
    have hlen : (wkR xs).length = xs.length := by rw [wkR_map, List.length_map]
    have := VR.view (sn := sn) ρ false sz (wkR xs) a b o c vs (by rw [hlen]; exact hl) hm (by simp) (fun h => ha (fun e => h (by rw [e]; rfl)))
      (fun i row hi => by obtain ⟨r, h1, rfl⟩ := wkR_get hi; rw [wkL_map, List.length_map]; exact hz i r h1)
      (fun i row hi j x hj => by obtain ⟨r, h1, rfl⟩ := wkR_get hi; obtain ⟨y, h2, rfl⟩ := wkL_get hj; exact hc i r h1 j y h2)
      (fun i row hi j x hj => by obtain ⟨r, h1, rfl⟩ := wkR_get hi; obtain ⟨y, h2, rfl⟩ := wkL_get hj; rw [one_wk]; exact ho i r h1 j y h2)
      (fun i row hi j x hj => by obtain ⟨r, h1, rfl⟩ := wkR_get hi; obtain ⟨y, h2, rfl⟩ := wkL_get hj; exact ih i r h1 j y h2)
    rw [hlen] at this
    exact this
  | cptr ρ row j b o vs hc ho hr ih =>
    exact .cptr _ _ _ b o vs (fun k x hk => by obtain ⟨y, h2, rfl⟩ := wkL_get hk; exact hc k y h2) (fun k x hk => by obtain ⟨y, h2, rfl⟩ := wkL_get hk; rw [one_wk]; exact ho k y h2)
      (fun k x hk => by obtain ⟨y, h2, rfl⟩ := wkL_get hk; exact ih k y h2)
  | sl ρ r off len c cap ad p h ha hl hm hn hc => exact .sl _ _ _ _ _ _ _ p h ha hl hm hn (by simp)
  | sl0 ρ r off cap a hc => exact .sl0 _ _ _ _ _ (by simp)
  | agg ρ xs ys hs h ih => exact .agg _ _ _ (by rw [wkL_map, List.length_map]; exact hs) (fun k x y hk hy => by obtain ⟨z, h2, rfl⟩ := wkL_get hk; exact ih k z y h2 hy)
  | tuple ρ xs ys hs h ih => exact .tuple _ _ _ (by rw [wkL_map, List.length_map]; exact hs) (fun k x y hk hy => by obtain ⟨z, h2, rfl⟩ := wkL_get hk; exact ih k z y h2 hy)
  | iface ρ t x y h ih => exact .iface _ _ _ _ ih
  | func ρ fn xs ys us vs hu hv h1 h2 ih1 ih2 =>
    exact .func _ _ _ _ _ _ (by rw [wkL_map, List.length_map]; exact hu) (by rw [wkL_map, List.length_map]; exact hv)
      (fun k x y hk hy => by obtain ⟨z, g2, rfl⟩ := wkL_get hk; exact ih1 k z y g2 hy) (fun k x y hk hy => by obtain ⟨z, g2, rfl⟩ := wkL_get hk; exact ih2 k z y g2 hy)
  | any => exact .any _ _
  | bool => exact .bool _ _
  | int => exact .int _ _ _
  | str => exact .str _ _
  | nilptr => exact .nilptr _
  | ptr ρ r i j p h => exact .ptr _ _ _ _ p h
  | nilchan => exact .nilchan _
  | chan ρ r p h => exact .chan _ _ p h
  | yfn ρ r p h => exact .yfn _ _ p h
  | rsl ρ r i j len p h hm => exact .rsl _ _ _ _ _ p h hm
  | nilmap => exact .nilmap _
  | map ρ r p h => exact .map _ _ p h
  | nilfunc => exact .nilfunc _
  | nilif => exact .nilif _
theorem BlkR.wk {sn : Snap} {ρ : Env} {p : Place} {b : Blk} {o : Obj} (h : BlkR sn ρ p b o) : BlkR sn ρ p b.wk o := by
  cases b with
  | dead => trivial
  | rows sz xs =>
    cases o <;> simp only [BlkR, Blk.wk] at h ⊢
    obtain ⟨h1, h2, h3, h4, h5, h6⟩ := h
    refine ⟨h1, h2, by rw [wkR_map, List.length_map]; exact h3, fun i row hi => ?_, fun i row hi j x hj => ?_, h6⟩
    · obtain ⟨r, g1, rfl⟩ := wkR_get hi
      rw [wkL_map, List.length_map]
      exact h4 i r g1
    · obtain ⟨r, g1, rfl⟩ := wkR_get hi
      obtain ⟨y, g2, rfl⟩ := wkL_get hj
      obtain ⟨v, e1, e2, e3⟩ := h5 i r g1 j y g2
      exact ⟨v, e1, by rw [one_wk]; exact e2, e3.wk⟩
  | amap es =>
    cases o <;> simp only [BlkR, Blk.wk] at h ⊢
    refine ⟨by simpa using h.1, fun k x m hk hm => ?_⟩
    rw [List.getElem?_map, Option.map_eq_some_iff] at hk
    obtain ⟨y, hy, rfl⟩ := hk
    have := h.2 k y m hy hm
    exact ⟨this.1, this.2.wk⟩
  | raw q => exact h
  | lrec q n s =>
    cases o <;> simp only [BlkR, Blk.wk] at h ⊢
    exact ⟨h.1, fun t => by rw [Ch.get_wk]; exact (h.2.1 t).wk, h.2.2⟩
theorem live_wk {b : Blk} : b.wk.live ↔ b.live := by cases b <;> simp [Blk.wk, Blk.live]
theorem Rel.wk {sn : Snap} {ρ : Env} {H : Heap} {w : World} (h : Rel sn ρ H w) : Rel sn ρ (H.map Blk.wk) w ∧ Ext sn ρ H w sn ρ (H.map Blk.wk) w := by
  have key : ∀ (r : Nat) b, (H.map Blk.wk)[r]? = some b → ∃ c, H[r]? = some c ∧ b = c.wk := fun r b hb => by
    rw [List.getElem?_map, Option.map_eq_some_iff] at hb
    obtain ⟨c, hc, e⟩ := hb
    exact ⟨c, hc, e.symm⟩
  refine ⟨⟨h.gl, h.snap, fun r blk p hr hl hp => ?_, fun r r' blk blk' p p' h1 h2 h3 h4 h5 h6 he => ?_, fun r hr => h.top r (by simpa using hr)⟩, ⟨fun _ _ h => h, fun _ _ => rfl, by simp, fun _ _ h => h, Nat.le_refl _, rfl, rfl, rfl, fun _ _ _ => rfl, fun b hb => absurd rfl hb, fun b ho => .inr ?_⟩⟩
  · obtain ⟨c, hc, rfl⟩ := key r blk hr
    obtain ⟨g1, obj, g2, g3⟩ := h.own r c p hc (live_wk.1 hl) hp
    exact ⟨g1, obj, g2, g3.wk⟩
  · obtain ⟨c, hc, rfl⟩ := key r blk h1
    obtain ⟨c', hc', rfl⟩ := key r' blk' h3
    exact h.inj r r' c c' p p' hc (live_wk.1 h2) hc' (live_wk.1 h4) h5 h6 he
  · obtain ⟨r, blk, p, h1, h2, h3, h4⟩ := ho
    obtain ⟨c, hc, rfl⟩ := key r blk h1
    exact ⟨r, c, p, hc, live_wk.1 h2, h3, h4⟩
theorem ACalls.wk {P : Program} {f : FuncId} {args : List AV} {H : Heap} {Q : CQ} (h : ACalls P f args H (fun o H' => Q o.wk (H'.map Blk.wk))) : ACalls P f args H Q := by
  intro sn ρ w vs hR hv
  refine (h sn ρ w vs hR hv).mono ?_
  rintro e w' ⟨sn', ρ', H', out, h1, h2, h3, h4⟩
  obtain ⟨g1, g2⟩ := h2.wk
  refine ⟨sn', ρ', _, out.wk, ?_, g1, h3.trans g2, h4⟩
  cases out with
  | ret v =>
    cases e with
    | returned cv => exact VR.wk h1
    | _ => exact h1.elim
  | pan v =>
    cases e with
    | panicked ch =>
      obtain ⟨x, cv, e1, rfl, hx⟩ := h1.pan_inv
      cases e1
      exact hx.wk
    | _ => exact h1.elim
theorem Wk.wk {B n : Nat} {s : Ch} {H : Heap} (hB : B ≤ H.length) : Wk B n s H s (H.map Blk.wk) := fun sn ρ w tmps _ hR hs => by
  obtain ⟨h1, h2⟩ := hR.wk
  exact ⟨sn, ρ, h1, hs, h2.b hB⟩
end Go.AM
set_option linter.unusedVariables false
set_option linter.unusedSimpArgs false
namespace Go.AM
mutual
inductive LeV : AV → AV → Prop where
  | refl (x : AV) : LeV x x
  | nil (f g : Bool) (sz sz' : Nat) (h : g = true → f = true) : LeV (.view f sz []) (.view g sz' [])
  | view (f g : Bool) (sz : Nat) {xs ys : List (List AV)} (h : g = true → f = true) (hr : LeR xs ys) : LeV (.view f sz xs) (.view g sz ys)
  | agg {xs ys : List AV} (h : LeL xs ys) : LeV (.agg xs) (.agg ys)
  | tuple {xs ys : List AV} (h : LeL xs ys) : LeV (.tuple xs) (.tuple ys)
  | iface (t : TypeId) {x y : AV} (h : LeV x y) : LeV (.iface t x) (.iface t y)
  | sl0 (z r off : Nat) : LeV (.view true z []) (.sl r off 0 none)
  | cap (r off len k : Nat) : LeV (.sl r off len (some k)) (.sl r off len none)
inductive LeL : List AV → List AV → Prop where
  | nil : LeL [] []
  | cons {x y : AV} {xs ys : List AV} (h1 : LeV x y) (h2 : LeL xs ys) : LeL (x :: xs) (y :: ys)
inductive LeR : List (List AV) → List (List AV) → Prop where
  | nil : LeR [] []
  | cons {x y : List AV} {xs ys : List (List AV)} (h1 : LeL x y) (h2 : LeR xs ys) : LeR (x :: xs) (y :: ys)
end
theorem LeL.len : ∀ {xs ys : List AV}, LeL xs ys → xs.length = ys.length
  | _, _, .nil => rfl
  | _, _, .cons _ h => by simp [LeL.len h]
theorem LeR.len : ∀ {xs ys : List (List AV)}, LeR xs ys → xs.length = ys.length
  | _, _, .nil => rfl
  | _, _, .cons _ h => by simp [LeR.len h]
theorem LeL.get : ∀ {xs ys : List AV}, LeL xs ys → ∀ {k : Nat} {y : AV}, ys[k]? = some y → ∃ x, xs[k]? = some x ∧ LeV x y
  | _, _, .nil, k, y, h => by simp at h
  | _, _, .cons h1 h2, k, y, h => by
    cases k with
    | zero => simp at h; subst h; exact ⟨_, rfl, h1⟩
    | succ k => simpa using LeL.get h2 (by simpa using h)
theorem LeR.get : ∀ {xs ys : List (List AV)}, LeR xs ys → ∀ {k : Nat} {y : List AV}, ys[k]? = some y → ∃ x, xs[k]? = some x ∧ LeL x y
  | _, _, .nil, k, y, h => by simp at h
  | _, _, .cons h1 h2, k, y, h => by
    cases k with
    | zero => simp at h; subst h; exact ⟨_, rfl, h1⟩
    | succ k => simpa using LeR.get h2 (by simpa using h)
theorem LeL.refl : ∀ (xs : List AV), LeL xs xs
  | [] => .nil
  | x :: xs => .cons (.refl x) (LeL.refl xs)
theorem LeR.refl : ∀ (xs : List (List AV)), LeR xs xs
  | [] => .nil
  | x :: xs => .cons (LeL.refl x) (LeR.refl xs)
theorem LeV.one {x y : AV} (h : LeV x y) : y.one = x.one := by cases h <;> simp [AV.one]
theorem VR.le {sn : Snap} {ρ : Env} {x : AV} {v : Value} (h : VR sn ρ x v) : ∀ {y : AV}, LeV x y → VR sn ρ y v := by
  induction h with
  | view ρ full sz xs a b o c vs hl hm hf ha hz hc ho hr ih =>
    intro y hle
    cases hle with
    | refl => exact .view ρ full sz xs a b o c vs hl hm hf ha hz hc ho hr
    | nil f g sz sz' h => exact .view ρ g sz' [] a b o c vs hl hm (fun e => hf (h e)) (fun e => absurd rfl e) (by simp) (by simp) (by simp) (by simp)
    | sl0 z r off =>
      have hc0 : c = 0 := hf rfl
      subst hc0
      exact .sl0 _ _ _ _ _ (by simp)
    | view f g sz h hle =>
      rename_i ys
      have hlen := hle.len
      have := VR.view (sn := sn) ρ g sz ys a b o c vs (by rw [← hlen]; exact hl) hm (fun e => by rw [hf (h e), hlen]) (fun e => ha (fun e' => e (by subst e'; cases hle; rfl)))
        (fun i row hi => by obtain ⟨r, h1, h2⟩ := hle.get hi; rw [← h2.len]; exact hz i r h1)
        (fun i row hi j x hj => by obtain ⟨r, h1, h2⟩ := hle.get hi; obtain ⟨y, h3, h4⟩ := h2.get hj; exact hc i r h1 j y h3)
        (fun i row hi j x hj => by obtain ⟨r, h1, h2⟩ := hle.get hi; obtain ⟨y, h3, h4⟩ := h2.get hj; rw [h4.one]; exact ho i r h1 j y h3)
        (fun i row hi j x hj => by obtain ⟨r, h1, h2⟩ := hle.get hi; obtain ⟨y, h3, h4⟩ := h2.get hj; exact ih i r h1 j y h3 h4)
      rw [← hlen] at this
      exact this
  | agg ρ xs ys hs h ih =>
    intro y hle
    cases hle with
    | refl => exact .agg _ _ _ hs h
    | agg hle => exact .agg _ _ _ (by rw [← hle.len]; exact hs) (fun k x y hk hy => by obtain ⟨z, h2, h3⟩ := hle.get hk; exact ih k z y h2 hy h3)
  | tuple ρ xs ys hs h ih =>
    intro y hle
    cases hle with
    | refl => exact .tuple _ _ _ hs h
    | tuple hle => exact .tuple _ _ _ (by rw [← hle.len]; exact hs) (fun k x y hk hy => by obtain ⟨z, h2, h3⟩ := hle.get hk; exact ih k z y h2 hy h3)
  | iface ρ t x y h ih =>
    intro z hle
    cases hle with
    | refl => exact .iface _ _ _ _ h
    | iface _ hle => exact .iface _ _ _ _ (ih hle)
  | any => intro y hle; cases hle; exact .any _ _
  | bool => intro y hle; cases hle; exact .bool _ _
  | int => intro y hle; cases hle; exact .int _ _ _
  | str => intro y hle; cases hle; exact .str _ _
  | nilptr => intro y hle; cases hle; exact .nilptr _
  | ptr ρ r i j p h => intro y hle; cases hle; exact .ptr _ _ _ _ p h
  | cptr ρ row j b o vs hc ho hr ih => intro y hle; cases hle; exact .cptr _ _ _ b o vs hc ho hr
  | sl ρ r off len c cap ad p h ha hl hm hn hc =>
    intro y hle
    cases hle with
    | refl => exact .sl _ _ _ _ _ _ _ p h ha hl hm hn hc
    | cap => exact .sl _ _ _ _ _ none _ p h ha hl hm hn (by simp)
  | sl0 ρ r off cap a hc =>
    intro y hle
    cases hle with
    | refl => exact .sl0 _ _ _ _ _ hc
    | cap => exact .sl0 _ _ _ none _ (by simp)
  | func ρ fn xs ys us vs hu hv h1 h2 ih1 ih2 => intro y hle; cases hle; exact .func _ _ _ _ _ _ hu hv h1 h2
  | nilchan => intro y hle; cases hle; exact .nilchan _
  | chan ρ r p h => intro y hle; cases hle; exact .chan _ _ p h
  | yfn ρ r p h => intro y hle; cases hle; exact .yfn _ _ p h
  | rsl ρ r i j len p h hm => intro y hle; cases hle; exact .rsl _ _ _ _ _ p h hm
  | nilmap => intro y hle; cases hle; exact .nilmap _
  | map ρ r p h => intro y hle; cases hle; exact .map _ _ p h
  | nilfunc => intro y hle; cases hle; exact .nilfunc _
  | nilif => intro y hle; cases hle; exact .nilif _
inductive LeB : Blk → Blk → Prop where
  | refl (b : Blk) : LeB b b
  | rows (sz : Nat) {xs ys : List (List AV)} (h : LeR xs ys) : LeB (.rows sz xs) (.rows sz ys)
  | raw {q q' : Obj → Prop} (h : ∀ o, q o → q' o) : LeB (.raw q) (.raw q')
inductive LeH : Heap → Heap → Prop where
  | nil : LeH [] []
  | cons {x y : Blk} {xs ys : Heap} (h1 : LeB x y) (h2 : LeH xs ys) : LeH (x :: xs) (y :: ys)
theorem LeH.refl : ∀ (H : Heap), LeH H H
  | [] => .nil
  | x :: xs => .cons (.refl x) (LeH.refl xs)
theorem LeH.len : ∀ {xs ys : Heap}, LeH xs ys → xs.length = ys.length
  | _, _, .nil => rfl
  | _, _, .cons _ h => by simp [LeH.len h]
theorem LeH.get : ∀ {xs ys : Heap}, LeH xs ys → ∀ {k : Nat} {y : Blk}, ys[k]? = some y → ∃ x, xs[k]? = some x ∧ LeB x y
  | _, _, .nil, k, y, h => by simp at h
  | _, _, .cons h1 h2, k, y, h => by
    cases k with
    | zero => simp at h; subst h; exact ⟨_, rfl, h1⟩
    | succ k => simpa using LeH.get h2 (by simpa using h)
theorem LeB.live {x y : Blk} (h : LeB x y) : y.live ↔ x.live := by cases h <;> simp [Blk.live]
theorem BlkR.le {sn : Snap} {ρ : Env} {p : Place} {b b' : Blk} {o : Obj} (h : BlkR sn ρ p b o) (hle : LeB b b') : BlkR sn ρ p b' o := by
  cases hle with
  | refl => exact h
  | raw hq => exact hq _ h
  | rows sz hle =>
    cases o <;> simp only [BlkR] at h ⊢
    obtain ⟨h1, h2, h3, h4, h5, h6⟩ := h
    refine ⟨h1, h2, by rw [← hle.len]; exact h3, fun i row hi => ?_, fun i row hi j x hj => ?_, h6⟩
    · obtain ⟨r, g1, g2⟩ := hle.get hi
      rw [← g2.len]; exact h4 i r g1
    · obtain ⟨r, g1, g2⟩ := hle.get hi
      obtain ⟨y, g3, g4⟩ := g2.get hj
      obtain ⟨v, e1, e2, e3⟩ := h5 i r g1 j y g3
      exact ⟨v, e1, by rw [g4.one]; exact e2, e3.le g4⟩
theorem Rel.le {sn : Snap} {ρ : Env} {H H' : Heap} {w : World} (h : Rel sn ρ H w) (hle : LeH H H') : Rel sn ρ H' w ∧ Ext sn ρ H w sn ρ H' w := by
  refine ⟨⟨h.gl, h.snap, fun r blk p hr hl hp => ?_, fun r r' blk blk' p p' h1 h2 h3 h4 h5 h6 he => ?_, fun r hr => h.top r (by rw [hle.len]; exact hr)⟩, ⟨fun _ _ h => h, fun _ _ => rfl, by rw [hle.len]; exact Nat.le_refl _, fun _ _ h => h, Nat.le_refl _, rfl, rfl, rfl, fun _ _ _ => rfl, fun b hb => absurd rfl hb, fun b ho => .inr ?_⟩⟩
  · obtain ⟨c, hc, hcl⟩ := hle.get hr
    obtain ⟨g1, obj, g2, g3⟩ := h.own r c p hc (hcl.live.1 hl) hp
    exact ⟨g1, obj, g2, g3.le hcl⟩
  · obtain ⟨c, hc, hcl⟩ := hle.get h1
    obtain ⟨c', hc', hcl'⟩ := hle.get h3
    exact h.inj r r' c c' p p' hc (hcl.live.1 h2) hc' (hcl'.live.1 h4) h5 h6 he
  · obtain ⟨r, blk, p, h1, h2, h3, h4⟩ := ho
    obtain ⟨c, hc, hcl⟩ := hle.get h1
    exact ⟨r, c, p, hc, hcl.live.1 h2, h3, h4⟩
inductive LeO : Out → Out → Prop where
  | ret {x y : AV} (h : LeV x y) : LeO (.ret x) (.ret y)
  | pan {x y : AV} (h : LeV x y) : LeO (.pan x) (.pan y)
inductive LeC : Ch → Ch → Prop where
  | nil : LeC .nil .nil
  | cons {s s' : Ch} (t : Nat) {x y : AV} (h1 : LeC s s') (h2 : LeV x y) : LeC (.put s t x) (.put s' t y)
theorem LeC.get : ∀ {s s' : Ch}, LeC s s' → ∀ (t : Nat), LeV (s.get t) (s'.get t)
  | _, _, .nil, t => .refl _
  | _, _, .cons d h1 h2, t => by
    simp only [Ch.get]
    split
    · exact h2
    · exact LeC.get h1 t
theorem Wk.le {B n : Nat} {s s' : Ch} {H H' : Heap} (hc : LeC s s') (hH : LeH H H') : Wk B n s H s' H' := fun sn ρ w tmps hB hR hs => by
  obtain ⟨h1, h2⟩ := hR.le hH
  exact ⟨sn, ρ, h1, ⟨hs.size, fun t => (hs.get t).le (hc.get t)⟩, h2.b hB⟩
end Go.AM
set_option linter.unusedVariables false
set_option linter.unusedSimpArgs false
namespace Go.AM
def Out.lt (m : Nat) : Out → Prop
  | .ret v => v.lt m = true
  | .pan v => v.lt m = true
theorem Rel.pick {sn : Snap} {ρ : Env} {H H' : Heap} {w : World} (h : Rel sn ρ H w) {sel : List Nat} (hn : sel.Nodup) (hb : sel.map (fun i => H[i]?) = H'.map (fun b => some (b.ren (pi sel H.length)))) :
    ∃ ρ' : Env, Rel sn ρ' H' w ∧ (∀ b, Owned ρ' H' b → Owned ρ H b) ∧ (∀ x v, VR sn ρ (x.ren (pi sel H.length)) v → VR sn ρ' x v) ∧ (∀ r i, sel[r]? = some i → ρ' r = ρ i) ∧ H'.length = sel.length := by
  have hlen : H'.length = sel.length := by have := congrArg List.length hb; simpa using this.symm
  have hup : ∀ r p, (fun r => if r < sel.length then ρ (pi sel H.length r) else none) r = some p → r < sel.length ∧ ρ (pi sel H.length r) = some p := fun r p hp => by
    by_cases hk : r < sel.length
    · simp only [if_pos hk] at hp; exact ⟨hk, hp⟩
    · simp only [if_neg hk] at hp; cases hp
  have hdn : ∀ r p, ρ (pi sel H.length r) = some p → (fun r => if r < sel.length then ρ (pi sel H.length r) else none) r = some p := fun r p hp => by
    by_cases hk : r < sel.length
    · simp only [if_pos hk]; exact hp
    · rw [pi_ge (by omega), h.top _ (by omega)] at hp; cases hp
  have hblk : ∀ (r : Nat) b, H'[r]? = some b → H[pi sel H.length r]? = some (b.ren (pi sel H.length)) := fun r b hr => by
    have hlt := (List.getElem?_eq_some_iff.1 hr).1
    have e1 : (sel.map (fun i => H[i]?))[r]? = some (H[pi sel H.length r]?) := by
      rw [List.getElem?_map, pi_lt (m := H.length) (by omega)]; rfl
    rw [hb, List.getElem?_map, hr] at e1
    exact (Option.some.inj e1).symm
  have hinj : ∀ r r', r < sel.length → r' < sel.length → pi sel H.length r = pi sel H.length r' → r = r' := fun k k' hk hk' he => by
    have h1 := pi_lt (m := H.length) hk
    have h2 := pi_lt (m := H.length) hk'
    rw [← he] at h2
    exact (List.getElem?_inj hk hn).1 (h1.trans h2.symm)
  refine ⟨_, ⟨h.gl, h.snap, fun r blk p h1 h2 h3 => ?_, fun r r' blk blk' p p' h1 h2 h1' h2' h3 h3' he => ?_, fun r hr => ?_⟩, fun b ho => ?_, fun x v hv => hv.unren rfl hdn, fun r i hr => ?_, hlen⟩
  · obtain ⟨k1, k2⟩ := hup r p h3
    obtain ⟨g1, obj, g2, g3⟩ := h.own _ _ p (hblk r blk h1) (live_ren.2 h2) k2
    exact ⟨g1, obj, g2, g3.unren hdn⟩
  · obtain ⟨k1, k2⟩ := hup r p h3
    obtain ⟨k1', k2'⟩ := hup r' p' h3'
    exact hinj r r' k1 k1' (h.inj _ _ _ _ p p' (hblk r blk h1) (live_ren.2 h2) (hblk r' blk' h1') (live_ren.2 h2') k2 k2' he)
  · simp only [if_neg (show ¬ r < sel.length by omega)]
  · obtain ⟨r, blk, p, h1, h2, h3, h4⟩ := ho
    obtain ⟨k1, k2⟩ := hup r p h3
    exact ⟨_, _, p, hblk r blk h1, live_ren.2 h2, k2, h4⟩
  · have hlt := (List.getElem?_eq_some_iff.1 hr).1
    have e := pi_lt (m := H.length) hlt
    rw [hr] at e
    simp only [if_pos hlt, ← Option.some.inj e]
theorem pick_ext {sn : Snap} {ρ ρ' : Env} {H H' : Heap} {w : World} {sel : List Nat} {B : Nat} (hB : sel.take B = List.range B) (ho : ∀ b, Owned ρ' H' b → Owned ρ H b) (he : ∀ r i, sel[r]? = some i → ρ' r = ρ i) (hl : H'.length = sel.length) : ExtB B sn ρ H w sn ρ' H' w := by
  have hlt : B ≤ sel.length := by have := congrArg List.length hB; simp at this; omega
  refine ⟨fun r hr => he r r ?_, by omega, fun _ _ h => h, Nat.le_refl _, rfl, rfl, rfl, fun _ _ _ => rfl, fun b hb => absurd rfl hb, fun b h => .inr (ho b h)⟩
  have e := congrArg (fun l => l[r]?) hB
  simp only [List.getElem?_take, if_pos hr, List.getElem?_range hr] at e
  exact e
def wkP (π : Nat → Nat) : Ch → Ch → Prop
  | .nil, _ => True
  | .put s' t v, s => (v = .any ∨ s.get t = v.ren π) ∧ wkP π s' s
theorem wkP_get {π : Nat → Nat} {s : Ch} : ∀ {s' : Ch}, wkP π s' s → ∀ t, s'.get t = .any ∨ s.get t = (s'.get t).ren π
  | .nil, _, t => .inl rfl
  | .put s' d v, h, t => by
    simp only [wkP] at h
    simp only [Ch.get]
    by_cases e : t = d
    · subst e; rw [if_pos rfl]; exact h.1
    · rw [if_neg e]; exact wkP_get h.2 t
theorem Wk.pick {B n : Nat} {s s' : Ch} {H H' : Heap} (sel : List Nat) (hn : sel.Nodup) (hB : sel.take B = List.range B) (hb : sel.map (fun i => H[i]?) = H'.map (fun b => some (b.ren (pi sel H.length)))) (hs : wkP (pi sel H.length) s' s) : Wk B n s H s' H' := fun sn ρ w tmps _ hR hsr => by
  obtain ⟨ρ', h1, h2, h3, h4, h5⟩ := hR.pick hn hb
  refine ⟨sn, ρ', h1, ⟨hsr.size, fun t => ?_⟩, pick_ext hB h2 h4 h5⟩
  rcases wkP_get hs t with e | e
  · rw [e]; exact .any _ _
  · refine h3 _ _ ?_
    rw [← e]; exact hsr.get t
def mvp (r m : Nat) (k : Nat) : Nat := if k = m then r else k
theorem Rel.mv {sn : Snap} {ρ : Env} {H : Heap} {w : World} (h : Rel sn ρ H w) {r : Nat} {b : Blk} (hr : H[r]? = some b) :
    ∃ ρ' : Env, Rel sn ρ' (H.set r .dead ++ [b]) w ∧ (∀ x, Owned ρ' (H.set r .dead ++ [b]) x → Owned ρ H x) ∧ (∀ x v, VR sn ρ (x.ren (mvp r H.length)) v → VR sn ρ' x v) ∧ (∀ k, k < H.length → ρ' k = ρ k) := by
  have hrl := (List.getElem?_eq_some_iff.1 hr).1
  have htop := h.top H.length (Nat.le_refl _)
  have hmono : ∀ k p, ρ k = some p → (fun k => ρ (mvp r H.length k)) k = some p := fun k p hp => by
    by_cases e : k = H.length
    · subst e; rw [htop] at hp; cases hp
    · simp only [mvp, if_neg e]; exact hp
  have key : ∀ (k : Nat) blk, (H.set r .dead ++ [b])[k]? = some blk → blk.live → H[mvp r H.length k]? = some blk ∧ (k < H.length → k ≠ r) ∧ k ≤ H.length := fun k blk hk hl => by
    rw [List.getElem?_append] at hk
    simp only [List.length_set] at hk
    split at hk
    · rename_i hlt
      rcases getElem?_set_list hk with ⟨rfl, rfl⟩ | ⟨hne, hk⟩
      · exact hl.elim
      · exact ⟨by rw [mvp, if_neg (by omega)]; exact hk, fun _ => hne, by omega⟩
    · rename_i hge
      have hz : k = H.length := by
        have := (List.getElem?_eq_some_iff.1 hk).1
        simp at this
        omega
      subst hz
      rw [Nat.sub_self] at hk
      simp only [List.getElem?_cons_zero, Option.some.injEq] at hk
      subst hk
      exact ⟨by rw [mvp, if_pos rfl]; exact hr, fun h => absurd h (Nat.lt_irrefl _), Nat.le_refl _⟩
  have hinj : ∀ k k', (k < H.length → k ≠ r) → (k' < H.length → k' ≠ r) → k ≤ H.length → k' ≤ H.length → mvp r H.length k = mvp r H.length k' → k = k' := fun k k' h1 h2 h3 h4 he => by
    unfold mvp at he
    split at he <;> split at he
    · omega
    · have := h2 (by omega); omega
    · have := h1 (by omega); omega
    · exact he
  refine ⟨fun k => ρ (mvp r H.length k), ⟨h.gl, h.snap, fun k blk p h1 h2 h3 => ?_, fun k k' blk blk' p p' h1 h2 h1' h2' h3 h3' he => ?_, fun k hk => ?_⟩, fun x ho => ?_, fun x v hv => hv.unren rfl (fun k p hp => hp), fun k hk => ?_⟩
  · obtain ⟨g1, g2, g3⟩ := key k blk h1 h2
    obtain ⟨q1, obj, q2, q3⟩ := h.own _ blk p g1 h2 h3
    exact ⟨q1, obj, q2, q3.mono (fun _ _ h => h) hmono⟩
  · obtain ⟨g1, g2, g3⟩ := key k blk h1 h2
    obtain ⟨g1', g2', g3'⟩ := key k' blk' h1' h2'
    exact hinj k k' g2 g2' g3 g3' (h.inj _ _ _ _ p p' g1 h2 g1' h2' h3 h3' he)
  · simp only [List.length_append, List.length_set, List.length_cons, List.length_nil] at hk
    simp only [mvp, if_neg (show ¬ k = H.length by omega)]
    exact h.top k (by omega)
  · obtain ⟨k, blk, p, h1, h2, h3, h4⟩ := ho
    exact ⟨_, blk, p, (key k blk h1 h2).1, h2, h3, h4⟩
  · simp only [mvp, if_neg (show ¬ k = H.length by omega)]
inductive Up (m : Nat) (Q : CQ) : Out → Heap → Prop where
  | mv (r : Nat) {o o' : Out} {H : Heap} {b : Blk} (hm : m ≤ H.length) (hr : H[r]? = some b) (ho : o = o'.ren (mvp r H.length)) (h : Up m Q o' (H.set r .dead ++ [b])) : Up m Q o H
  | done {o : Out} {H : Heap} (h : Q o H) : Up m Q o H
  | wk {o : Out} {H : Heap} (h : Up m Q o.wk (H.map Blk.wk)) : Up m Q o H
  | fz {o : Out} {H : Heap} (r sz : Nat) (xs : List (List AV)) (h1 : H[r]? = some (.rows sz xs)) (h2 : ∀ row ∈ xs, ∀ x ∈ row, x.pure = true) (h3 : o.fzOk r xs.length) (h4 : ∀ b ∈ H.set r .dead, b.fzOk r xs.length)
      (h : Up m Q (o.fz r sz xs) ((H.set r .dead).map (Blk.fz r sz xs))) : Up m Q o H
  | gc {o : Out} {H : Heap} (k : Nat) (h1 : m ≤ k) (h2 : k ≤ H.length) (h3 : o.lt k) (h4 : ∀ b ∈ H.take k, b.lt k) (h : Up m Q o (H.take k)) : Up m Q o H
  | dead (r : Nat) {o : Out} {H : Heap} (h : Up m Q o (H.set r .dead)) : Up m Q o H
  | ghost (b : Blk) {o : Out} {H : Heap} (h : Up m Q o (H ++ [b])) : Up m Q o H
  | nils (z sz : Nat) {H : Heap} (h : Up m Q (.ret (.sl H.length 0 0 none)) (H ++ [.rows sz []])) : Up m Q (.ret (.view true z [])) H
  | pick (sel : List Nat) {o o' : Out} {H H' : Heap} (hn : sel.Nodup) (hB : sel.take m = List.range m) (hb : sel.map (fun i => H[i]?) = H'.map (fun b => some (b.ren (pi sel H.length)))) (ho : o = o'.ren (pi sel H.length)) (h : Up m Q o' H') : Up m Q o H
  | le {o o' : Out} {H H' : Heap} (h1 : LeO o o') (h2 : LeH H H') (h : Up m Q o' H') : Up m Q o H
def kill (H : Heap) : List Nat → Heap
  | [] => H
  | k :: ks => kill (H.set k .dead) ks
theorem Up.kill {m : Nat} {Q : CQ} {o : Out} : ∀ (ks : List Nat) (H : Heap), Up m Q o (kill H ks) → Up m Q o H
  | [], _, h => h
  | k :: ks, H, h => .dead k (Up.kill ks _ h)
theorem OutR.cases {sn : Snap} {ρ : Env} {o : Out} {e : Ending} (h : OutR sn ρ o e) : (∃ x v, o = .ret x ∧ e = .returned v ∧ VR sn ρ x v) ∨ ∃ x v, o = .pan x ∧ e = .panicked [{ v, recovered := false }] ∧ VR sn ρ x v := by
  cases e with
  | returned v =>
    obtain ⟨x, rfl, hx⟩ := h.ret_inv
    exact .inl ⟨x, v, rfl, rfl, hx⟩
  | panicked ch =>
    obtain ⟨x, v, rfl, rfl, hx⟩ := h.pan_inv
    exact .inr ⟨x, v, rfl, rfl, hx⟩
  | outgrown => cases o <;> exact h.elim
theorem OutR.map {sn sn' : Snap} {ρ ρ' : Env} {f : AV → AV} {o o' : Out} {e : Ending} (h : OutR sn ρ o e) (hr : ∀ x, o = .ret x → o' = .ret (f x)) (hp : ∀ x, o = .pan x → o' = .pan (f x)) (hf : ∀ x v, (o = .ret x ∨ o = .pan x) → VR sn ρ x v → VR sn' ρ' (f x) v) : OutR sn' ρ' o' e := by
  rcases h.cases with ⟨x, v, h1, rfl, h3⟩ | ⟨x, v, h1, rfl, h3⟩
  · rw [hr x h1]; exact hf x v (.inl h1) h3
  · rw [hp x h1]; exact hf x v (.inr h1) h3
theorem ACalls.up {P : Program} {f : FuncId} {args : List AV} {H : Heap} {Q : CQ} (h : ACalls P f args H (Up H.length Q)) : ACalls P f args H Q := by
  intro sn ρ w vs hR hv
  refine (h sn ρ w vs hR hv).mono ?_
  rintro e w' ⟨sn', ρ', H', out, h1, h2, h3, h4⟩
  have key : ∀ (o : Out) (H' : Heap), Up H.length Q o H' → ∀ (sn' : Snap) (ρ' : Env), OutR sn' ρ' o e → Rel sn' ρ' H' w' → ExtB H.length sn ρ H w sn' ρ' H' w' → ∃ sn' ρ' H' out, OutR sn' ρ' out e ∧ Rel sn' ρ' H' w' ∧ Ext sn ρ H w sn' ρ' H' w' ∧ Q out H' := by
    intro o H' hu
    induction hu with
    | done hq => intro sn' ρ' k1 k2 k3; exact ⟨sn', ρ', _, _, k1, k2, k3.ext hR, hq⟩
    | wk hq ih =>
      intro sn' ρ' k1 k2 k3
      obtain ⟨g1, g2⟩ := k2.wk
      exact ih sn' ρ' (k1.map (f := AV.wk) (fun x e => by rw [e]; rfl) (fun x e => by rw [e]; rfl) (fun x v _ hv => hv.wk)) g1 (k3.trans (g2.b k3.len))
    | @fz o H' r sz xs q1 q2 q3 q4 hq ih =>
      intro sn' ρ' k1 k2 k3
      obtain ⟨sn2, g1, g2, g3⟩ := k2.freeze q1 q2 q4
      refine ih sn2 ρ' (k1.map (f := AV.fz r sz xs) (fun x e => by rw [e]; rfl) (fun x e => by rw [e]; rfl) (fun x v he hv => g3 _ _ ?_ hv)) g1 (k3.trans (g2.b k3.len))
      rcases he with rfl | rfl <;> exact q3
    | @le o o' H1 H2 q1 q2 hq ih =>
      intro sn' ρ' k1 k2 k3
      obtain ⟨g1, g2⟩ := k2.le q2
      refine ih sn' ρ' ?_ g1 (k3.trans (g2.b k3.len))
      rcases k1.cases with ⟨x, v, rfl, rfl, hv⟩ | ⟨x, v, rfl, rfl, hv⟩
      · cases q1 with
        | ret h => exact hv.le h
      · cases q1 with
        | pan h => exact hv.le h
    | @pick sel o o' H1 H2 q1 q2 q3 q4 hq ih =>
      intro sn' ρ' k1 k2 k3
      obtain ⟨ρ2, h1, h2, h3, h4, h5⟩ := k2.pick q1 q3
      refine ih sn' ρ2 ?_ h1 (k3.trans (pick_ext q2 h2 h4 h5))
      subst q4
      rcases k1.cases with ⟨x, v, e1, rfl, hv⟩ | ⟨x, v, e1, rfl, hv⟩
      · cases o' <;> simp only [Out.ren] at e1 <;> cases e1
        exact h3 _ _ hv
      · cases o' <;> simp only [Out.ren] at e1 <;> cases e1
        exact h3 _ _ hv
    | @mv r o o' H1 b q1 q2 q3 hq ih =>
      intro sn' ρ' k1 k2 k3
      obtain ⟨ρ2, h1, h2, h3, h4⟩ := k2.mv q2
      refine ih sn' ρ2 ?_ h1 (k3.trans ⟨fun k hk => h4 k (Nat.lt_of_lt_of_le hk q1), by simp; omega, fun _ _ h => h, Nat.le_refl _, rfl, rfl, rfl, fun _ _ _ => rfl, fun b hb => absurd rfl hb, fun b ho => .inr (h2 b ho)⟩)
      subst q3
      rcases k1.cases with ⟨x, v, e1, rfl, hv⟩ | ⟨x, v, e1, rfl, hv⟩
      · cases o' <;> simp only [Out.ren] at e1 <;> cases e1
        exact h3 _ _ hv
      · cases o' <;> simp only [Out.ren] at e1 <;> cases e1
        exact h3 _ _ hv
    | @dead r o H1 hq ih =>
      intro sn' ρ' k1 k2 k3
      obtain ⟨g1, g2⟩ := k2.drop r
      exact ih sn' ρ' k1 g1 (k3.trans (g2.b k3.len))
    | @ghost b o H1 hq ih =>
      intro sn' ρ' k1 k2 k3
      obtain ⟨g1, g2⟩ := k2.ghost b
      exact ih sn' ρ' k1 g1 (k3.trans (g2.b k3.len))
    | @nils z sz H1 hq ih =>
      intro sn' ρ' k1 k2 k3
      obtain ⟨g1, g2⟩ := k2.ghost (.rows sz [])
      refine ih sn' ρ' ?_ g1 (k3.trans (g2.b k3.len))
      rcases k1.cases with ⟨x, v, e1, rfl, hv⟩ | ⟨x, v, e1, _, _⟩
      · cases e1
        obtain ⟨a, b, o, c, vs, he, hl, hm, hf, _⟩ := hv.view_inv
        rw [he, hf rfl]
        exact .sl0 _ _ _ _ _ (by simp)
      · cases e1
    | @gc o H' k q1 q2 q3 q4 hq ih =>
      intro sn' ρ' k1 k2 k3
      have hcut : ∀ r p, r < k → ρ' r = some p → (fun r => if r < k then ρ' r else none) r = some p := fun r p hm hp => by simp only [if_pos hm]; exact hp
      refine ih sn' _ (k1.map (f := fun x => x) (fun x e => e) (fun x e => e) (fun x v he hv => hv.cut (m := k) ?_ hcut)) (k2.take q4) (k3.trans ⟨fun r hr => ?_, by simp; omega, fun _ _ h => h, Nat.le_refl _, rfl, rfl, rfl, fun _ _ _ => rfl, fun b hb => absurd rfl hb, fun b ho => .inr (owned_take ho)⟩)
      · rcases he with rfl | rfl <;> exact q3
      · simp only [if_pos (Nat.lt_of_lt_of_le hr q1)]
  exact key _ _ h4 _ _ h1 h2 (h3.b (Nat.le_refl _))
section
variable {m : Nat} {x y : AV} {xs : List AV}
end
theorem renL_pure' {π : Nat → Nat} {xs : List AV} (h : ltL 0 xs = true) : xs.map (AV.ren π) = xs := by rw [← renL_map]; exact renL_pure h
theorem ACalls.pure_use {P : Program} {f : FuncId} {args : List AV} {v : AV} (hc : ACalls P f args [] fun o H => o = .ret v ∧ H = []) (ha : ltL 0 args = true) (hv : v.lt 0 = true) {H : Heap} : ACalls P f args H fun o H2 => o = .ret v ∧ H2 = H := by
  refine hc.use (H := H) [] List.nodup_nil rfl (by simp) (by simp) (renL_pure' ha).symm ?_
  rintro o H0' ⟨rfl, rfl⟩
  refine ⟨?_, ?_⟩
  · simp only [Out.ren]
    rw [ren_pure hv]
  · simp [patch, setMany]
theorem rK_use {P : Program} {ops : Array Oper} {f : FuncId} {args : List AV} {d : Option Tmp} {rest : List Oper} {Q : XQ} {s : Ch} {H H' : Heap} {v : AV} (hE : Enters P f) (hc : ACalls P f args H fun o H2 => o = .ret v ∧ H2 = H') (h : cops P ops rest Q (s.put? d v) H') : rK P ops (.call f args) d rest Q s H := by
  rw [rK_call]
  refine ⟨hE, hc.mono fun o H2 ⟨e1, e2⟩ => ?_⟩
  subst e1 e2
  exact h
theorem ACalls.pure_pan {P : Program} {f : FuncId} {args : List AV} {v : AV} (hc : ACalls P f args [] fun o H => o = .pan v ∧ H = []) (ha : ltL 0 args = true) (hv : v.lt 0 = true) {H : Heap} : ACalls P f args H fun o H2 => o = .pan v ∧ H2 = H := by
  refine hc.use (H := H) [] List.nodup_nil rfl (by simp) (by simp) (renL_pure' ha).symm ?_
  rintro o H0' ⟨rfl, rfl⟩
  refine ⟨?_, ?_⟩
  · simp only [Out.ren]
    rw [ren_pure hv]
  · simp [patch, setMany]
theorem rK_pans {P : Program} {ops : Array Oper} {f : FuncId} {args : List AV} {d : Option Tmp} {rest : List Oper} {Q : XQ} {s : Ch} {H H' : Heap} {v : AV} (hE : Enters P f) (hc : ACalls P f args H fun o H2 => o = .pan v ∧ H2 = H') (h : Q (.pan v) s H') : rK P ops (.call f args) d rest Q s H := by
  rw [rK_call]
  refine ⟨hE, hc.mono fun o H2 ⟨e1, e2⟩ => ?_⟩
  subst e1 e2
  exact h
theorem ACalls.pre_fz {P : Program} {f : FuncId} {args : List AV} {H : Heap} {Q : CQ} (r : Nat) {sz : Nat} {xs : List (List AV)} (h1 : H[r]? = some (.rows sz xs)) (h2 : ∀ row ∈ xs, ∀ x ∈ row, x.pure = true) (h3 : fzOkL r xs.length args) (h4 : ∀ b ∈ H.set r .dead, b.fzOk r xs.length)
    (h : ACalls P f (fzL r sz xs args) ((H.set r .dead).map (Blk.fz r sz xs)) Q) : ACalls P f args H Q := by
  intro sn ρ w vs hR hv
  obtain ⟨sn2, g1, g2, g3⟩ := hR.freeze h1 h2 h4
  refine (h sn2 ρ w vs g1 ⟨by rw [fzL_map, List.length_map]; exact hv.1, fun k x y hx hy => ?_⟩).mono ?_
  · rw [fzL_map, List.getElem?_map, Option.map_eq_some_iff] at hx
    obtain ⟨z, hz, rfl⟩ := hx
    exact g3 _ _ (fzOkL_get h3 hz) (hv.2 k z y hz hy)
  · rintro e w' ⟨sn', ρ', H', out, k1, k2, k3, k4⟩
    exact ⟨sn', ρ', H', out, k1, k2, g2.trans k3, k4⟩
section
variable {P : Program} {s : Ch} {H : Heap} {v : AV} {a : Tmp} {t : TypeId} {rs : List ResultVar} {o : Option (List AV)}
def resC : AR → Option (List AV) → Option (List AV)
  | .val v, o => o.map (v :: ·)
  | _, _ => none
theorem res_cell : aResults P s H (.cell a t :: rs) = resC (aLoad P t (s.get a) H) (aResults P s H rs) := by
  simp only [aResults, aResult, resC]
  cases aLoad P t (s.get a) H <;> cases aResults P s H rs <;> rfl
theorem resC_val : resC (.val v) o = o.map (v :: ·) := id rfl
end
attribute [go_sem] res_cell resC_val
theorem List.set_getElem?_self' {α : Type} {x : α} : ∀ {l : List α} {i : Nat}, l[i]? = some x → l.set i x = l
  | [], _, h => by simp at h
  | y :: l, 0, h => by simp at h; simp [h]
  | y :: l, i + 1, h => by simp at h; simp [List.set_getElem?_self' h]
theorem setMany_same {H : Heap} : ∀ (sel : List Nat) (bs : List Blk), (∀ (k i : Nat) b, sel[k]? = some i → bs[k]? = some b → H[i]? = some b) → setMany H sel bs = H
  | [], _, _ => by simp [setMany]
  | _ :: _, [], _ => by simp [setMany]
  | i :: is, b :: bs, h => by
    rw [setMany, List.set_getElem?_self' (h 0 i b rfl rfl)]
    exact setMany_same is bs fun k j c hj hc => h (k + 1) j c (by simpa using hj) (by simpa using hc)
theorem ACalls.keep {P : Program} {f : FuncId} {args0 : List AV} {H0 : Heap} {v : AV} (hc : ACalls P f args0 H0 fun o H => o = .ret v ∧ H = H0) {H : Heap} (sel : List Nat) (hn : sel.Nodup) (hl : sel.length = H0.length)
    (hblk : ∀ k : Nat, k < sel.length → H[pi sel H.length k]? = (H0[k]?).map (Blk.ren (pi sel H.length))) {args : List AV} (hargs : args = args0.map (AV.ren (pi sel H.length))) : ACalls P f args H fun o H2 => o = .ret (v.ren (pi sel H.length)) ∧ H2 = H := by
  refine hc.use sel hn hl (fun i hi => ?_) hblk hargs ?_
  · obtain ⟨k, hk, rfl⟩ := List.getElem_of_mem hi
    have h1 := hblk k hk
    have h2 : pi sel H.length k = sel[k] := by simp [pi, List.getElem?_eq_getElem hk]
    rw [h2, List.getElem?_eq_getElem (by omega : k < H0.length)] at h1
    exact (List.getElem?_eq_some_iff.1 h1).1
  · rintro o H0' ⟨rfl, rfl⟩
    refine ⟨rfl, ?_⟩
    have h3 : H0'.drop sel.length = [] := by rw [List.drop_eq_nil_iff]; omega
    rw [patch, h3, List.map_nil, List.append_nil]
    refine setMany_same _ _ fun k i b hi hb => ?_
    have hk : k < sel.length := (List.getElem?_eq_some_iff.1 hi).1
    have h1 := hblk k hk
    rw [List.getElem?_map] at hb
    rw [hb] at h1
    have h2 : pi sel H.length k = i := by simp [pi, hi]
    rw [← h2]; exact h1
theorem Wk.drop {B n m : Nat} {s s' : Ch} {H H' : Heap} (h : wkS s' s) (hm : B ≤ m) (hl : m ≤ H.length) (hs : chLt m s') (e : H.take m = H') (hb : ∀ b ∈ H', b.lt m) : Wk B n s H s' H' := by
  subst e
  exact (Wk.slots h).trans (Wk.take hm hl hs hb)
theorem ACalls.useE {P : Program} {f : FuncId} {args0 : List AV} {H0 H0' : Heap} {v : AV} (hc : ACalls P f args0 H0 fun o H => o = .ret v ∧ H = H0') {H : Heap} (sel : List Nat) (v' : AV) (H' : Heap) (hn : sel.Nodup) (hl : sel.length = H0.length) (hlt : ∀ i ∈ sel, i < H.length)
    (hblk : sel.map (fun i => H[i]?) = H0.map fun b => some (b.ren (pi sel H.length))) {args : List AV} (hargs : args = args0.map (AV.ren (pi sel H.length))) (hv : v.ren (pi sel H.length) = v') (hH : patch H sel H0' = H') : ACalls P f args H fun o H2 => o = .ret v' ∧ H2 = H' := by
  refine hc.use sel hn hl hlt (fun k hk => ?_) hargs ?_
  · have h1 := congrArg (fun l => l[k]?) hblk
    simp only [List.getElem?_map, List.getElem?_eq_getElem hk, List.getElem?_eq_getElem (hl ▸ hk : k < H0.length), Option.map_some] at h1
    rw [pi, List.getElem?_eq_getElem hk, List.getElem?_eq_getElem (hl ▸ hk : k < H0.length)]
    simpa using h1
  · rintro o H0' ⟨rfl, rfl⟩
    exact ⟨by rw [← hv]; rfl, hH⟩
theorem ACalls.panE {P : Program} {f : FuncId} {args0 : List AV} {H0 H0' : Heap} {v : AV} (hc : ACalls P f args0 H0 fun o H => o = .pan v ∧ H = H0') {H : Heap} (sel : List Nat) (v' : AV) (H' : Heap) (hn : sel.Nodup) (hl : sel.length = H0.length) (hlt : ∀ i ∈ sel, i < H.length)
    (hblk : sel.map (fun i => H[i]?) = H0.map fun b => some (b.ren (pi sel H.length))) {args : List AV} (hargs : args = args0.map (AV.ren (pi sel H.length))) (hv : v.ren (pi sel H.length) = v') (hH : patch H sel H0' = H') : ACalls P f args H fun o H2 => o = .pan v' ∧ H2 = H' := by
  refine hc.use sel hn hl hlt (fun k hk => ?_) hargs ?_
  · have h1 := congrArg (fun l => l[k]?) hblk
    simp only [List.getElem?_map, List.getElem?_eq_getElem hk, List.getElem?_eq_getElem (hl ▸ hk : k < H0.length), Option.map_some] at h1
    rw [pi, List.getElem?_eq_getElem hk, List.getElem?_eq_getElem (hl ▸ hk : k < H0.length)]
    simpa using h1
  · rintro o H0' ⟨rfl, rfl⟩
    exact ⟨by rw [← hv]; rfl, hH⟩
mutual
theorem fz_pure {r sz : Nat} {ys : List (List AV)} : ∀ {x : AV}, x.lt 0 = true → x.fz r sz ys = x
  | .ptr r i j, h => by simp [AV.lt] at h
  | .sl r off len cap, h => by simp [AV.lt] at h
  | .map r, h => by simp [AV.lt] at h
  | .chan r, h => by simp [AV.lt] at h
  | .yfn r, h => by simp [AV.lt] at h
  | .rsl r i j len, h => by simp [AV.lt] at h
  | .func fn a b, h => by
    simp only [AV.lt, Bool.and_eq_true] at h
    simp only [AV.fz, fzL_pure h.1, fzL_pure h.2]
  | .iface t v, h => by
    simp only [AV.lt] at h
    simp only [AV.fz, fz_pure h]
  | .agg cs, h => by
    simp only [AV.lt] at h
    simp only [AV.fz, fzL_pure h]
  | .tuple cs, h => by
    simp only [AV.lt] at h
    simp only [AV.fz, fzL_pure h]
  | .any, _ => rfl
  | .bool _, _ => rfl
  | .int _ _, _ => rfl
  | .str _, _ => rfl
  | .nilptr, _ => rfl
  | .cptr _ _, _ => rfl
  | .view _ _ _, _ => rfl
  | .nilmap, _ => rfl
  | .nilchan, _ => rfl
  | .nilfunc, _ => rfl
  | .nilif, _ => rfl
theorem fzL_pure {r sz : Nat} {ys : List (List AV)} : ∀ {xs : List AV}, ltL 0 xs = true → fzL r sz ys xs = xs
  | [], _ => rfl
  | x :: xs, h => by
    simp only [ltL, Bool.and_eq_true] at h
    simp only [fzL, fz_pure h.1, fzL_pure h.2]
end
mutual
theorem fzOk_pure {r n : Nat} : ∀ {x : AV}, x.lt 0 = true → x.fzOk r n
  | .ptr r i j, h => by simp [AV.lt] at h
  | .sl r off len cap, h => by simp [AV.lt] at h
  | .map r, h => by simp [AV.lt] at h
  | .chan r, h => by simp [AV.lt] at h
  | .yfn r, h => by simp [AV.lt] at h
  | .rsl r i j len, h => by simp [AV.lt] at h
  | .func fn a b, h => by
    simp only [AV.lt, Bool.and_eq_true] at h
    exact ⟨fzOkL_pure h.1, fzOkL_pure h.2⟩
  | .iface t v, h => by
    simp only [AV.lt] at h
    exact fzOk_pure (x := v) h
  | .agg cs, h => by
    simp only [AV.lt] at h
    exact fzOkL_pure (xs := cs) h
  | .tuple cs, h => by
    simp only [AV.lt] at h
    exact fzOkL_pure (xs := cs) h
  | .any, _ => trivial
  | .bool _, _ => trivial
  | .int _ _, _ => trivial
  | .str _, _ => trivial
  | .nilptr, _ => trivial
  | .cptr _ _, _ => trivial
  | .view _ _ _, _ => trivial
  | .nilmap, _ => trivial
  | .nilchan, _ => trivial
  | .nilfunc, _ => trivial
  | .nilif, _ => trivial
theorem fzOkL_pure {r n : Nat} : ∀ {xs : List AV}, ltL 0 xs = true → fzOkL r n xs
  | [], _ => trivial
  | x :: xs, h => by
    simp only [ltL, Bool.and_eq_true] at h
    exact ⟨fzOk_pure h.1, fzOkL_pure h.2⟩
end
theorem bfz_pure {r sz z : Nat} {ys xs : List (List AV)} (h : ∀ row ∈ xs, ltL 0 row = true) : Blk.fz r sz ys (.rows z xs) = .rows z xs := by
  rw [Blk.fz]
  congr 1
  conv => rhs; rw [← List.map_id' xs]
  exact List.map_congr_left fun row hr => by rw [← fzL_map]; exact fzL_pure (h row hr)
theorem bfzOk_pure {r n z : Nat} {xs : List (List AV)} (h : ∀ row ∈ xs, ltL 0 row = true) : Blk.fzOk r n (.rows z xs) := fun row hr => fzOkL_pure (h row hr)
end Go.AM
set_option linter.unusedVariables false
set_option linter.unusedSimpArgs false
namespace Go.AM
mutual
theorem ren_id {π : Nat → Nat} {m : Nat} (hp : ∀ k, k < m → π k = k) : ∀ {x : AV}, x.lt m = true → x.ren π = x
  | .ptr r i j, h => by simp only [AV.lt, decide_eq_true_eq] at h; simp only [AV.ren, hp r h]
  | .sl r off len cap, h => by simp only [AV.lt, decide_eq_true_eq] at h; simp only [AV.ren, hp r h]
  | .map r, h => by simp only [AV.lt, decide_eq_true_eq] at h; simp only [AV.ren, hp r h]
  | .chan r, h => by simp only [AV.lt, decide_eq_true_eq] at h; simp only [AV.ren, hp r h]
  | .yfn r, h => by simp only [AV.lt, decide_eq_true_eq] at h; simp only [AV.ren, hp r h]
  | .rsl r i j len, h => by simp only [AV.lt, decide_eq_true_eq] at h; simp only [AV.ren, hp r h]
  | .func fn a b, h => by
    simp only [AV.lt, Bool.and_eq_true] at h
    simp only [AV.ren, renL_id hp h.1, renL_id hp h.2]
  | .iface t v, h => by
    simp only [AV.lt] at h
    simp only [AV.ren, ren_id hp h]
  | .agg cs, h => by
    simp only [AV.lt] at h
    simp only [AV.ren, renL_id hp h]
  | .tuple cs, h => by
    simp only [AV.lt] at h
    simp only [AV.ren, renL_id hp h]
  | .any, _ => rfl
  | .bool _, _ => rfl
  | .int _ _, _ => rfl
  | .str _, _ => rfl
  | .nilptr, _ => rfl
  | .cptr _ _, _ => rfl
  | .view _ _ _, _ => rfl
  | .nilmap, _ => rfl
  | .nilchan, _ => rfl
  | .nilfunc, _ => rfl
  | .nilif, _ => rfl
theorem renL_id {π : Nat → Nat} {m : Nat} (hp : ∀ k, k < m → π k = k) : ∀ {xs : List AV}, ltL m xs = true → renL π xs = xs
  | [], _ => rfl
  | x :: xs, h => by
    simp only [ltL, Bool.and_eq_true] at h
    simp only [renL, ren_id hp h.1, renL_id hp h.2]
end
theorem renM_id {π : Nat → Nat} {m : Nat} (hp : ∀ k, k < m → π k = k) {xs : List AV} (h : ltL m xs = true) : xs.map (AV.ren π) = xs := by rw [← renL_map]; exact renL_id hp h
theorem Ch.ren_id {π : Nat → Nat} {m : Nat} (hp : ∀ k, k < m → π k = k) : ∀ {s : Ch}, s.lt m = true → s.ren π = s
  | .nil, _ => rfl
  | .put s d v, h => by
    simp only [Ch.lt, Bool.and_eq_true] at h
    simp only [Ch.ren, Ch.ren_id hp h.1, Go.AM.ren_id hp h.2]
theorem bren_id {π : Nat → Nat} {m : Nat} (hp : ∀ k, k < m → π k = k) : ∀ {b : Blk}, b.lt m → b.ren π = b
  | .dead, _ => rfl
  | .rows sz xs, h => by
    rw [Blk.ren]
    congr 1
    conv => rhs; rw [← List.map_id' xs]
    exact List.map_congr_left fun row hr => renM_id hp (h row hr)
  | .amap es, h => by
    rw [Blk.ren]
    congr 1
    conv => rhs; rw [← List.map_id' es]
    exact List.map_congr_left fun e he => by rw [ren_id hp (h e he)]
  | .raw q, _ => rfl
  | .lrec q n s, h => by rw [Blk.ren, Ch.ren_id hp h]
mutual
theorem lt_le {m n : Nat} (hp : m ≤ n) : ∀ {x : AV}, x.lt m = true → x.lt n = true
  | .ptr r i j, h => by simp only [AV.lt, decide_eq_true_eq] at h ⊢; omega
  | .sl r off len cap, h => by simp only [AV.lt, decide_eq_true_eq] at h ⊢; omega
  | .map r, h => by simp only [AV.lt, decide_eq_true_eq] at h ⊢; omega
  | .chan r, h => by simp only [AV.lt, decide_eq_true_eq] at h ⊢; omega
  | .yfn r, h => by simp only [AV.lt, decide_eq_true_eq] at h ⊢; omega
  | .rsl r i j len, h => by simp only [AV.lt, decide_eq_true_eq] at h ⊢; omega
  | .func fn a b, h => by
    simp only [AV.lt, Bool.and_eq_true] at h ⊢
    exact ⟨ltL_le hp h.1, ltL_le hp h.2⟩
  | .iface t v, h => by
    simp only [AV.lt] at h ⊢
    exact lt_le hp h
  | .agg cs, h => by
    simp only [AV.lt] at h ⊢
    exact ltL_le hp h
  | .tuple cs, h => by
    simp only [AV.lt] at h ⊢
    exact ltL_le hp h
  | .any, _ => rfl
  | .bool _, _ => rfl
  | .int _ _, _ => rfl
  | .str _, _ => rfl
  | .nilptr, _ => rfl
  | .cptr _ _, _ => rfl
  | .view _ _ _, _ => rfl
  | .nilmap, _ => rfl
  | .nilchan, _ => rfl
  | .nilfunc, _ => rfl
  | .nilif, _ => rfl
theorem ltL_le {m n : Nat} (hp : m ≤ n) : ∀ {xs : List AV}, ltL m xs = true → ltL n xs = true
  | [], _ => rfl
  | x :: xs, h => by
    simp only [ltL, Bool.and_eq_true] at h ⊢
    exact ⟨lt_le hp h.1, ltL_le hp h.2⟩
end
theorem Ch.lt_le {m n : Nat} (hp : m ≤ n) : ∀ {s : Ch}, s.lt m = true → s.lt n = true
  | .nil, _ => rfl
  | .put s d v, h => by
    simp only [Ch.lt, Bool.and_eq_true] at h ⊢
    exact ⟨Ch.lt_le hp h.1, Go.AM.lt_le hp h.2⟩
theorem blt_le {m n : Nat} (hp : m ≤ n) : ∀ {b : Blk}, b.lt m → b.lt n
  | .dead, _ => trivial
  | .rows sz xs, h => fun row hr => ltL_le hp (h row hr)
  | .amap es, h => fun e he => lt_le hp (h e he)
  | .raw _, _ => trivial
  | .lrec _ _ s, h => Ch.lt_le hp h
theorem setMany_range : ∀ (bs old pre R : List Blk), old.length = bs.length → setMany (pre ++ (old ++ R)) (List.range' pre.length bs.length) bs = pre ++ (bs ++ R)
  | [], old, pre, R, h => by
    obtain rfl : old = [] := List.length_eq_zero_iff.1 h
    simp [setMany]
  | b :: bs, [], pre, R, h => by simp at h
  | b :: bs, o :: old, pre, R, h => by
    rw [List.length_cons, List.range'_succ, setMany]
    have e : (pre ++ (o :: old ++ R)).set pre.length b = (pre ++ [b]) ++ (old ++ R) := by simp
    rw [e]
    have := setMany_range bs old (pre ++ [b]) R (by simpa using h)
    simp only [List.length_append, List.length_singleton] at this
    rw [this]; simp
theorem pi_range {n m k : Nat} (h : k < n) : pi (List.range n) m k = k := by simp [pi, h]
theorem patch_range {H0 H0' R : Heap} (hl : H0'.length = H0.length) (h : ∀ b ∈ H0', b.lt H0.length) : patch (H0 ++ R) (List.range H0.length) H0' = H0' ++ R := by
  have e1 : H0'.map (Blk.ren (pi (List.range H0.length) (H0 ++ R).length)) = H0' := by
    conv => rhs; rw [← List.map_id' H0']
    exact List.map_congr_left fun b hb => bren_id (fun k hk => pi_range hk) (h b hb)
  have e2 : H0'.drop (List.range H0.length).length = [] := by rw [List.drop_eq_nil_iff]; simp; omega
  rw [patch, e1, e2, List.map_nil, List.append_nil]
  have := setMany_range H0' H0 [] R hl.symm
  rw [hl] at this
  simpa [List.range_eq_range'] using this
theorem frame_blk {H0 R : Heap} (h : ∀ b ∈ H0, b.lt H0.length) (k : Nat) (hk : k < (List.range H0.length).length) : (H0 ++ R)[pi (List.range H0.length) (H0 ++ R).length k]? = (H0[k]?).map (Blk.ren (pi (List.range H0.length) (H0 ++ R).length)) := by
  have hk : k < H0.length := by simpa using hk
  rw [pi_range hk, List.getElem?_append_left hk, List.getElem?_eq_getElem hk, Option.map_some, bren_id (fun k hk => pi_range hk) (h _ (List.getElem_mem hk))]
theorem ACalls.frame {P : Program} {f : FuncId} {args : List AV} {H0 H0' R : Heap} {v : AV} (hc : ACalls P f args H0 fun o H => o = .ret v ∧ H = H0') (ha : ltL H0.length args = true) (hv : v.lt H0.length = true) (h1 : ∀ b ∈ H0, b.lt H0.length) (h2 : ∀ b ∈ H0', b.lt H0.length) (hl : H0'.length = H0.length) :
    ACalls P f args (H0 ++ R) fun o H => o = .ret v ∧ H = H0' ++ R := by
  refine hc.use (List.range H0.length) List.nodup_range (by simp) (by simp; omega) (fun k hk => frame_blk h1 k hk) (renM_id (fun k hk => pi_range hk) ha).symm ?_
  rintro o H' ⟨rfl, rfl⟩
  exact ⟨by rw [Out.ren, ren_id (fun k hk => pi_range hk) hv], patch_range hl h2⟩
theorem ACalls.framep {P : Program} {f : FuncId} {args : List AV} {H0 H0' R : Heap} {v : AV} (hc : ACalls P f args H0 fun o H => o = .pan v ∧ H = H0') (ha : ltL H0.length args = true) (hv : v.lt H0.length = true) (h1 : ∀ b ∈ H0, b.lt H0.length) (h2 : ∀ b ∈ H0', b.lt H0.length) (hl : H0'.length = H0.length) :
    ACalls P f args (H0 ++ R) fun o H => o = .pan v ∧ H = H0' ++ R := by
  refine hc.use (List.range H0.length) List.nodup_range (by simp) (by simp; omega) (fun k hk => frame_blk h1 k hk) (renM_id (fun k hk => pi_range hk) ha).symm ?_
  rintro o H' ⟨rfl, rfl⟩
  exact ⟨by rw [Out.ren, ren_id (fun k hk => pi_range hk) hv], patch_range hl h2⟩
end Go.AM
set_option linter.unusedVariables false
set_option linter.unusedSimpArgs false
namespace Go.AM
def snapAll (w : World) : Snap := fun b => w.heap[b]?
theorem rel_all {w : World} (hg : GlOk (snapAll w)) : Rel (snapAll w) noEnv [] w where
  gl := hg
  snap := fun b o h => h
  own := fun r blk p h => by simp at h
  inj := fun r r' blk blk' p p' h => by simp at h
  top := fun r _ => rfl
inductive Sh (P : Program) : TypeId → List AV → Prop where
  | bool {t : TypeId} (h : P.underlying t = some .bool) (b : Bool) : Sh P t [.bool b]
  | int {t : TypeId} {k : IntKind} (h : P.underlying t = some (.int k)) (n : Int) (hw : (Lit.int k n).wf = true) : Sh P t [.int k n]
  | str {t : TypeId} (h : P.underlying t = some .string) (s : ByteArray) (hs : s.size ≤ maxLen) : Sh P t [.str s]
  | slice {t e : TypeId} (h : P.underlying t = some (.slice e)) (f : Bool) (rows : List (List AV)) (hl : rows.length ≤ maxLen) (hr : ∀ row ∈ rows, Sh P e row) : Sh P t [.view f (P.cellsOf e) rows]
  | struct {t : TypeId} {fs : Array Field} (h : P.underlying t = some (.struct fs)) (xss : List (List AV)) (hn : xss.length = fs.size) (hp : ∀ (i : Nat) f xs, fs[i]? = some f → xss[i]? = some xs → Sh P f.type xs) : Sh P t xss.flatten
  | array {t e : TypeId} {n : Nat} (h : P.underlying t = some (.array n e)) (xss : List (List AV)) (hn : xss.length = n) (hp : ∀ xs ∈ xss, Sh P e xs) : Sh P t xss.flatten
def RdL (sn : Snap) (xs : List AV) (cs : List Value) : Prop := xs.length = cs.length ∧ ∀ (k : Nat) x v, xs[k]? = some x → cs[k]? = some v → VR sn noEnv x v ∧ x.one = true
theorem RdL.one {sn : Snap} {x : AV} {v : Value} (h : VR sn noEnv x v) (ho : x.one = true) : RdL sn [x] [v] := ⟨rfl, fun k y u hy hu => by
  cases k with
  | zero => simp at hy hu; subst hy hu; exact ⟨h, ho⟩
  | succ k => simp at hy⟩
theorem RdL.app {sn : Snap} {xs ys : List AV} {cs ds : List Value} (h1 : RdL sn xs cs) (h2 : RdL sn ys ds) : RdL sn (xs ++ ys) (cs ++ ds) := by
  refine ⟨by simp [h1.1, h2.1], fun k x v hx hv => ?_⟩
  by_cases hk : k < xs.length
  · rw [List.getElem?_append_left hk] at hx
    rw [List.getElem?_append_left (by rw [← h1.1]; exact hk)] at hv
    exact h1.2 k x v hx hv
  · rw [List.getElem?_append_right (by omega)] at hx
    rw [List.getElem?_append_right (by rw [← h1.1]; omega), ← h1.1] at hv
    exact h2.2 _ x v hx hv
section
variable {H : Type} {enc : TypeId × Value → H} {P : Program} {w : World} {sp : Nat → Bool} {hd : Bool}
end
section
variable {P : Program} {t e : TypeId} {xs : List AV}
theorem Sh.bool_inv (h : Sh P t xs) (ht : P.underlying t = some (.bool)) : ∃ b, xs = [.bool b] := by
  cases h with
  | bool h b => rw [ht] at h; cases h; exact ⟨b, rfl⟩
  | int h n hw => rw [ht] at h; cases h
  | str h s hs => rw [ht] at h; cases h
  | slice h f rows hl hr => rw [ht] at h; cases h
  | struct h xss hn hp => rw [ht] at h; cases h
  | array h xss hn hp => rw [ht] at h; cases h
end
theorem Sh.rows {P : Program} {e : TypeId} {A : Type} {f : A → List AV} (g : ∀ row, Sh P e row → ∃ a, wkL row = f a) : ∀ {rows : List (List AV)}, (∀ row ∈ rows, Sh P e row) → ∃ l : List A, wkR rows = l.map f
  | [], _ => ⟨[], by simp [wkR]⟩
  | row :: rows, h => by
    obtain ⟨a, ha⟩ := g row (h row (by simp))
    obtain ⟨l, hl⟩ := Sh.rows g (rows := rows) fun r hr => h r (by simp [hr])
    exact ⟨a :: l, by simp [wkR, ha, hl]⟩
end Go.AM
set_option linter.unusedVariables false
set_option linter.unusedSimpArgs false
namespace Go.AM
open Go.ChangeShapes Go.WideShapes Go.ChangeAt Go.RowKit
theorem vrs_nil {sn : Snap} {ρ : Env} : VRs sn ρ [] [] := ⟨rfl, fun k x y h => by simp at h⟩
theorem vrs_cons {sn : Snap} {ρ : Env} {x : AV} {xs : List AV} {v : Value} {vs : List Value} (h : VR sn ρ x v) (hs : VRs sn ρ xs vs) : VRs sn ρ (x :: xs) (v :: vs) := by
  refine ⟨by simp [hs.1], fun k y u hy hu => ?_⟩
  cases k with
  | zero => simp at hy hu; subst hy hu; exact h
  | succ k => exact hs.2 k y u (by simpa using hy) (by simpa using hu)
theorem trodAll_stays {H : Type} {enc : TypeId × Value → H} {P : Program} {W W' : World} {sp' : Nat → Bool} (hl : laidOutB P = true) (hheap : ∀ b, b < W.heap.size → W'.heap[b]? = W.heap[b]?) :
    ∀ {ts : List TypeId} {vs : List Value} {ds : List (DataW H)} {ps : List MemPlace}, (∀ t ∈ ts, P.readableRec t = true ∧ t < P.types.size) → DataW.TrodAll enc P W 0 (fun _ => true) true ts vs ds ps → (∀ p ∈ ps, p.block < W.heap.size) → (∀ p ∈ ps, sp' p.block = true) →
      DataW.TrodAll enc P W' 0 sp' true ts vs ds ps
  | [], [], [], ps, _, h, _, _ => h
  | t :: ts, v :: vs, d :: ds, ps, hr, h, hlt, hs => by
    obtain ⟨p, q, h1, h2, rfl⟩ := h
    refine ⟨p, q, Go.WideElems.Trod_stays hl (hr t (by simp)).1 (hr t (by simp)).2 h1 (fun x hx => ?_) (fun x hx => hs x (by simp [hx])), trodAll_stays hl hheap (fun u hu => hr u (by simp [hu])) h2 (fun x hx => hlt x (by simp [hx])) (fun x hx => hs x (by simp [hx])), rfl⟩
    have hb := hheap x.block (hlt x (by simp [hx]))
    cases x with
    | cell b off => simp only [World.sameAt, World.cell?]; rw [show W'.heap[b]? = W.heap[b]? from hb]
    | map b => exact hb
  | [], [], _ :: _, _, _, h, _, _ => h.elim
  | [], _ :: _, _, _, _, h, _, _ => h.elim
  | _ :: _, [], _, _, _, h, _, _ => h.elim
  | _ :: _, _ :: _, [], _, _, h, _, _ => h.elim
theorem law_contract {H : Type} {enc : TypeId × Value → H} {P : Program} {f : FuncId} {fn : Func} {s : ChangeSpec} {tb : TypeId} {W : World} {args : Array Value} {ds gs : List (DataW H)} {before : List MemPlace} {axs : List AV}
    (hc : ACalls P f axs [] fun o H => o = .ret (.bool true) ∧ H = []) (hW : DataW.Whole enc P fn.params.toList s.vars false W args.toList ds gs before) (hvs : s.vars = []) (hrt : fn.resultTypes = #[tb]) (htb : P.underlying tb = some .bool)
    (hs : s.fn H ds = { results := [.lit (.bool true)], args := ds }) (hl : laidOutB P = true) (hr : ∀ t ∈ fn.params.toList, P.readableRec t = true ∧ t < P.types.size) (hg : GlOk (snapAll W)) (hv : VRs (snapAll W) noEnv axs args.toList) :
    Calls P f args W fun e W' => ∃ v, e = .returned v ∧ s.post enc P fn false true false false W args v W' := by
  refine (hc (snapAll W) noEnv W args (rel_all hg) hv).mono ?_
  rintro e W' ⟨sn', ρ', H', out, h1, h2, h3, rfl, rfl⟩
  have he : e = .returned (.bool true) := by
    cases e with
    | returned v =>
      obtain ⟨x, hx, hxv⟩ := h1.ret_inv
      cases hx
      rw [hxv.bool_inv]
    | panicked ch => exact h1.elim
    | outgrown => exact h1.elim
  subst he
  have hheap : ∀ b, b < W.heap.size → W'.heap[b]? = W.heap[b]? := fun b hb => by
    have e1 : snapAll W b = some W.heap[b] := by simp [snapAll, hb]
    rw [h2.snap b _ (h3.snap b _ e1), Array.getElem?_eq_getElem hb]
  have hlt := hW.lt
  obtain ⟨p, q, hA, hV, rfl, hfz, hnd⟩ := id hW
  rw [hvs] at hV
  obtain ⟨rfl, rfl⟩ := trodVars_none hV
  have hS : s.fn H (ds ++ []) = { results := [.lit (.bool true)], args := ds } := by rw [List.append_nil]; exact hs
  refine ⟨_, rfl, ds, [], _, [], p, [], hW, ?_, ?_, ?_, ?_, fun h => by cases h⟩
  · rw [hS, hrt]
    exact trodAll_cons_mk (shut_bool htb _) trodAll_mk0
  · rw [hS]
    simp only [List.append_nil] at hlt
    exact trodAll_stays hl hheap hr hA hlt fun x hx => by simpa using hlt x hx
  · rw [hS, hvs]; rfl
  · refine ⟨h3.os, h3.output, fun i hi => ?_⟩
    have := hheap i hi
    rw [this]
    cases W.heap[i]? with
    | none => rfl
    | some o =>
      cases o with
      | cells c t fr => exact ⟨rfl, rfl, rfl, fun _ _ => rfl⟩
      | map es clock => exact .inr ⟨rfl, rfl⟩
      | _ => rfl
end Go.AM
set_option linter.unusedVariables false
set_option linter.unusedSimpArgs false
namespace Go.AM
theorem Wk.ghost {B n : Nat} {s : Ch} {H : Heap} (b : Blk) : Wk B n s H s (H ++ [b]) := fun sn ρ w tmps hB hR hs => by
  obtain ⟨h1, h2⟩ := hR.ghost b
  exact ⟨sn, ρ, h1, hs, h2.b hB⟩
theorem LeC.refl : ∀ (s : Ch), LeC s s
  | .nil => .nil
  | .put s t v => .cons t (LeC.refl s) (.refl v)
theorem Wk.leH {B n : Nat} {s : Ch} {H H' : Heap} (hH : LeH H H') : Wk B n s H s H' := Wk.le (LeC.refl s) hH
theorem Wk.kill {B n : Nat} {s : Ch} : ∀ (ks : List Nat) {H : Heap}, Wk B n s H s (kill H ks)
  | [], H => Wk.refl _ _ _ _
  | k :: ks, H => (Wk.dead k).trans (Wk.kill ks)
def pu (a r m : Nat) (k : Nat) : Nat := pi (List.range a ++ [r]) m k
theorem pu_lt {a r m k : Nat} (h : k < a) : pu a r m k = k := by
  simp [pu, pi, List.getElem?_append_left, h]
theorem pu_eq {a r m : Nat} : pu a r m a = r := by simp [pu, pi]
mutual
theorem ren_lt {π : Nat → Nat} {m : Nat} (hπ : ∀ k, k < m → π k = k) : ∀ {x : AV}, x.lt m = true → x.ren π = x
  | .ptr r i j, h => by simp only [AV.lt, decide_eq_true_eq] at h; simp only [AV.ren, hπ r h]
  | .sl r off len cap, h => by simp only [AV.lt, decide_eq_true_eq] at h; simp only [AV.ren, hπ r h]
  | .map r, h => by simp only [AV.lt, decide_eq_true_eq] at h; simp only [AV.ren, hπ r h]
  | .chan r, h => by simp only [AV.lt, decide_eq_true_eq] at h; simp only [AV.ren, hπ r h]
  | .yfn r, h => by simp only [AV.lt, decide_eq_true_eq] at h; simp only [AV.ren, hπ r h]
  | .rsl r i j len, h => by simp only [AV.lt, decide_eq_true_eq] at h; simp only [AV.ren, hπ r h]
  | .func fn a b, h => by
    simp only [AV.lt, Bool.and_eq_true] at h
    simp only [AV.ren, renL_lt hπ h.1, renL_lt hπ h.2]
  | .iface t v, h => by
    simp only [AV.lt] at h
    simp only [AV.ren, ren_lt hπ h]
  | .agg cs, h => by
    simp only [AV.lt] at h
    simp only [AV.ren, renL_lt hπ h]
  | .tuple cs, h => by
    simp only [AV.lt] at h
    simp only [AV.ren, renL_lt hπ h]
  | .any, _ => rfl
  | .bool _, _ => rfl
  | .int _ _, _ => rfl
  | .str _, _ => rfl
  | .nilptr, _ => rfl
  | .cptr _ _, _ => rfl
  | .view _ _ _, _ => rfl
  | .nilmap, _ => rfl
  | .nilchan, _ => rfl
  | .nilfunc, _ => rfl
  | .nilif, _ => rfl
theorem renL_lt {π : Nat → Nat} {m : Nat} (hπ : ∀ k, k < m → π k = k) : ∀ {xs : List AV}, ltL m xs = true → renL π xs = xs
  | [], _ => rfl
  | x :: xs, h => by
    simp only [ltL, Bool.and_eq_true] at h
    simp only [renL, ren_lt hπ h.1, renL_lt hπ h.2]
end
theorem bren_lt {π : Nat → Nat} {m : Nat} (hπ : ∀ k, k < m → π k = k) {b : Blk} (h : b.lt m) : b.ren π = b := by
  cases b with
  | dead => rfl
  | rows sz xs =>
    simp only [Blk.ren]
    congr 1
    conv => rhs; rw [← List.map_id' xs]
    exact List.map_congr_left fun row hr => by rw [← renL_map]; exact renL_lt hπ (h row hr)
  | amap es =>
    simp only [Blk.ren]
    congr 1
    conv => rhs; rw [← List.map_id' es]
    exact List.map_congr_left fun e he => by rw [ren_lt hπ (h e he)]
  | raw q => rfl
  | lrec q n s => simp only [Blk.ren]; rw [Ch.ren_id hπ h]
theorem Wk.push {B n : Nat} {s s' : Ch} {H A : Heap} {b : Blk} (r : Nat) (hA : H.take A.length = A) (hr : H[r]? = some b) (hAr : A.length ≤ r) (hlt : ∀ b ∈ A, b.lt A.length) (hb : b.lt A.length) (hB : B ≤ A.length) (hs : wkP (pu A.length r H.length) s' s) : Wk B n s H s' (A ++ [b]) := by
  have hπ : ∀ k, k < A.length → pi (List.range A.length ++ [r]) H.length k = k := fun k hk => pu_lt hk
  have hrl := (List.getElem?_eq_some_iff.1 hr).1
  refine Wk.pick (List.range A.length ++ [r]) ?_ ?_ ?_ hs
  · rw [List.nodup_append]
    refine ⟨List.nodup_range, by simp, fun x hx y hy => ?_⟩
    simp at hx hy
    omega
  · rw [List.take_append_of_le_length (by simpa using hB), List.take_range, Nat.min_eq_left hB]
  · rw [List.map_append, List.map_append]
    congr 1
    · apply List.ext_getElem?
      intro k
      simp only [List.getElem?_map]
      by_cases hk : k < A.length
      · have hAk : A[k]? = some A[k] := List.getElem?_eq_getElem hk
        have : H[k]? = some A[k] := by
          rw [← hAk, ← hA, List.getElem?_take]
          simp at hk ⊢
          intro h
          omega
        rw [List.getElem?_range hk, hAk]
        simp only [Option.map_some, this]
        rw [bren_lt hπ (hlt _ (List.getElem_mem hk))]
      · rw [List.getElem?_eq_none (by simpa using hk), List.getElem?_eq_none (by omega)]
        rfl
    · simp only [List.map_cons, List.map_nil, hr]
      rw [bren_lt hπ hb]
end Go.AM
set_option linter.unusedVariables false
set_option linter.unusedSimpArgs false
namespace Go.AM
def AYieldAt (P : Program) (l : Nat) (args : Array Value) (W : World) (R : Ending → World → Prop) : Prop :=
  ∃ fn tmps assign body, (Instr.yield l args).run P W = .ok (.round l fn tmps assign body) W ∧ RoundIn Fence.wide 0 P l fn tmps assign body W R
def RYield (P : Program) (r : Nat) (args : List AV) (H : Heap) (Q : CQ) : Prop :=
  ∀ (sn : Snap) (ρ : Env) (w : World) (vs : Array Value) (p : Place), ρ r = some p → Rel sn ρ H w → VRs sn ρ args vs.toList →
    AYieldAt P p.b vs w fun e w' => ∃ sn' ρ' H' out, OutR sn' ρ' out e ∧ Rel sn' ρ' H' w' ∧ Ext sn ρ H w sn' ρ' H' w' ∧ Q out H'
theorem RYield.mono {P : Program} {r : Nat} {args : List AV} {H : Heap} {Q Q' : CQ} (h : RYield P r args H Q) (hq : ∀ o H', Q o H' → Q' o H') : RYield P r args H Q' := fun sn ρ w vs p hp hR hv => by
  obtain ⟨fn, tm, a, b, h1, h2⟩ := h sn ρ w vs p hp hR hv
  exact ⟨fn, tm, a, b, h1, h2.mono fun e w' ⟨sn', ρ', H', out, g1, g2, g3, g4⟩ => ⟨sn', ρ', H', out, g1, g2, g3, hq _ _ g4⟩⟩
theorem uponIn_mono2 {F : Fence} {n : Nat} {P : Program} {o : Oper} {a : Act} {K K' : Act → World → Prop} {Q Q' : Exit → Act → World → Prop} (hK : ∀ a w, K a w → K' a w) (hQ : ∀ e a w, e ≠ .normal → Q e a w → Q' e a w) {r : Result Next}
    (h : o.uponIn F n P a K Q r) : o.uponIn F n P a K' Q' r := by
  have hl : LetsOut Q → LetsOut Q' := fun ⟨a, w, h⟩ => ⟨a, w, hQ _ _ _ (by simp) h⟩
  cases r with
  | ok x w' =>
    cases x <;> simp only [Oper.uponIn] at h ⊢ <;>
      first
        | exact hK _ _ h
        | exact ⟨h.1, CallsIn.mono h.2 (fun e w'' he => by cases e <;> first | exact hK _ _ he | exact hQ _ _ _ (by simp) he | exact hl he)⟩
        | exact ⟨h.1, RowsIn.mono h.2 (fun _ _ he => hK _ _ he)⟩
        | exact ⟨h.1, RoundIn.mono h.2 (fun e w'' he => by cases e <;> first | exact hK _ _ he | exact hQ _ _ _ (by simp) he | exact hl he)⟩
  | halt x w' => cases x <;> simp only [Oper.uponIn] at h ⊢ <;> first | exact h.elim | exact hQ _ _ _ (by simp) h
theorem wpOpsIn_seq {F : Fence} {n : Nat} {P : Program} {ops : Array Oper} {Q1 Q : Exit → Act → World → Prop} {l2 : List Nat} (hn : ∀ a w, Q1 .normal a w → wpOpsIn F n P ops Q l2 a w) (hq : ∀ e a w, e ≠ .normal → Q1 e a w → Q e a w) :
    ∀ (l1 : List Nat) (a : Act) (w : World), wpOpsIn F n P ops Q1 l1 a w → wpOpsIn F n P ops Q (l1 ++ l2) a w
  | [], a, w, h => hn a w h
  | i :: l1, a, w, h => by
    have ih := wpOpsIn_seq hn hq l1
    simp only [List.cons_append, wpOpsIn] at h ⊢
    split
    · rename_i h0; simp only [h0] at h; exact ih _ _ h
    · rename_i o h0
      simp only [h0] at h
      split
      · rename_i hw
        rw [if_pos hw] at h
        exact ⟨h.1, uponIn_mono2 ih hq h.2⟩
      · rename_i hw
        rw [if_neg hw] at h
        exact ⟨h.1, ih _ _ h.2⟩
def yX (P : Program) (ops : Array Oper) (post : List Oper) (f : Operand) (as : Array Operand) (d : Option Tmp) (Q : XQ) : XQ := fun x s H => match x with
  | .normal => ∃ r, cev s f = .yfn r ∧ RYield P r (evs s as) H (fun o H' => match o with | .ret v => cops P ops post Q (s.put? d v) H' | .pan v => Q (.pan v) s H')
  | x => Q x s H
theorem round_fr {P : Program} {ro : Option Nat} {l : Nat} {f : FuncId} {tm : Array Value} {a b : Code} {w : World} {R : Ending → World → Prop} (h : RoundIn Fence.wide 0 P l f tm a b w R) : RoundIn (FR ro) 0 P l f tm a b w R := h
theorem SWp.yield {P : Program} {n : Nat} {D : Fx} {id : Nat} {l : List Oper} (k : Nat) {f : Operand} {as : Array Operand} {ts : Array TypeId} {d : Option Tmp} {ty : TypeId} {pos : String} {af : Array Edge} {Q : XQ} {s : Ch} {H : Heap}
    (hl : l = l.take k ++ ⟨d, .call ⟨.value f, as, ts⟩, ty, pos, af, none⟩ :: l.drop (k + 1)) (hok : codeOk n (.region id l.toArray false) = true)
    (h : cops P l.toArray (l.take k) (yX P l.toArray (l.drop (k + 1)) f as d Q) s H) : SWp P n D (.region id l.toArray false) Q s H := by
  intro ro sn ρ w a hR hs hd hB
  simp only [codeOk, Bool.and_eq_true] at hok
  have hkl : k < l.length := by
    have := congrArg List.length hl
    simp only [List.length_append, List.length_take, List.length_cons, List.length_drop] at this
    omega
  have hk : l.toArray[k]? = some ⟨d, .call ⟨.value f, as, ts⟩, ty, pos, af, none⟩ := by
    rw [List.getElem?_toArray, hl, List.getElem?_append_right (by simp; omega)]
    simp [Nat.min_eq_left (Nat.le_of_lt hkl)]
  have hr : List.range l.toArray.size = List.range' 0 k ++ (k :: List.range' (k + 1) (l.length - (k + 1))) := by
    have e1 := List.range'_append_1 (s := 0) (m := k) (n := l.length - k)
    rw [Nat.zero_add, show k + (l.length - k) = l.length by omega] at e1
    rw [List.range_eq_range', List.size_toArray, ← List.range'_succ, show l.length - (k + 1) + 1 = l.length - k by omega, e1]
  refine wpIn_region ?_
  rw [hr]
  have h0 := cops_part (D := D) hok.1 k 0 s H (by simp; omega) (by simpa using h) sn ρ w a hR hs hd hB
  refine wpOpsIn_seq ?_ ?_ _ _ _ (wpOps_in hok.2 notOut _ _ _ h0)
  · rintro a' w' ⟨sn', ρ', H', s', x, h1, h2, h3, h4, h5, h6⟩
    have := h1.normal
    subst this
    obtain ⟨r, hf, hy⟩ := h6
    have hfv := cev_ok h2.gl h3 f
    rw [hf] at hfv
    generalize hcf : a'.eval f = cf at hfv
    cases hfv
    rename_i p hp
    have hargs := evs_ok h2.gl h3 as
    obtain ⟨fn, tm, ac, bc, g1, g2⟩ := hy sn' ρ' w' _ p hp h2 hargs
    simp only [wpOpsIn, hk]
    rw [if_pos (by simp [Region.wanted])]
    refine ⟨fun _ _ => trivial, ?_⟩
    rw [Oper.semAt_eq _ _ _ (by simp)]
    have hrun : (execOp a'.eval ⟨d, .call ⟨.value f, as, ts⟩, ty, pos, af, none⟩).run P w' = (Instr.yield p.b (as.map a'.eval)).run P w' := by
      simp [execOp, resolve, hcf, Deferred.ofValue, invoke]
    rw [hrun, g1]
    refine ⟨FR_room, round_fr (g2.mono ?_)⟩
    rintro e w2 ⟨sn2, ρ2, H2, out, k1, k2, k3, k4⟩
    have hE : ExtB D.B sn ρ H w sn2 ρ2 H2 w2 := h5.trans (k3.b h5.len)
    cases e with
    | returned v =>
      obtain ⟨x, rfl, hx⟩ := k1.ret_inv
      have hdst : dstOk n ⟨d, .call ⟨.value f, as, ts⟩, ty, pos, af, none⟩ = true := by
        have := hok.1
        rw [Array.all_eq_true] at this
        obtain ⟨q1, q2⟩ := Array.getElem?_eq_some_iff.1 hk
        exact q2 ▸ this k q1
      have hsz : k + 1 + (l.length - (k + 1)) ≤ l.toArray.size := by simp; omega
      have := cops_part (D := D) (P := P) (Q := Q) hok.1 (l.length - (k + 1)) (k + 1) (s'.put? d x) H2 hsz (by rw [List.take_of_length_le (by simp)]; exact k4) sn2 ρ2 w2 (a'.put d v) k2
        ((h3.mono k3.snap k3.env).put? (o := ⟨d, .call ⟨.value f, as, ts⟩, ty, pos, af, none⟩) hdst hx) (by rw [put_defers]; exact h4) hE.len
      have := wpOps_in (ro := ro) hok.2 notOut _ _ _ (wpOps_mono (fun e a'' w'' ⟨sn3, ρ3, H3, s3, x, q1, q2, q3, q4, q5, q6⟩ => ⟨sn3, ρ3, H3, s3, x, q1, q2, q3, q4, hE.trans q5, q6⟩) _ _ _ this)
      exact this
    | panicked ch =>
      obtain ⟨x, cv, rfl, rfl, hx⟩ := k1.pan_inv
      exact ⟨sn2, ρ2, H2, s', .pan x, hx, k2, h3.mono k3.snap k3.env, h4, hE, k4⟩
    | outgrown => cases out <;> exact k1.elim
  · rintro e a' w' he ⟨sn', ρ', H', s', x, h1, h2, h3, h4, h5, h6⟩
    refine ⟨sn', ρ', H', s', x, h1, h2, h3, h4, h5, ?_⟩
    cases x with
    | normal => cases e <;> simp [AXR] at h1; exact absurd rfl he
    | _ => exact h6
def LB (f : FuncId) (ps : Array Tmp) (ac bc : Code) (st : LoopState) (pe : Option Code) (n : Nat) (s : Ch) : Blk :=
  .lrec (fun L => L.fn = f ∧ L.params = ps ∧ L.assign = ac ∧ L.body = bc ∧ L.state = st ∧ L.pending = pe) n s
theorem LB.inv {sn : Snap} {ρ : Env} {p : Place} {o : Obj} {f : FuncId} {ps : Array Tmp} {ac bc : Code} {st : LoopState} {pe : Option Code} {n : Nat} {s : Ch} (h : BlkR sn ρ p (LB f ps ac bc st pe n s) o) :
    ∃ L, o = .loop L ∧ SR sn ρ n s L.tmps ∧ L.fn = f ∧ L.params = ps ∧ L.assign = ac ∧ L.body = bc ∧ L.state = st ∧ L.pending = pe := by
  cases o <;> simp only [LB, BlkR] at h
  exact ⟨_, rfl, ⟨h.1, h.2.1⟩, h.2.2⟩
theorem Rel.loop {sn : Snap} {ρ : Env} {H : Heap} {w : World} (hR : Rel sn ρ H w) {r : Nat} {p : Place} {f : FuncId} {ps : Array Tmp} {ac bc : Code} {st st' : LoopState} {pe pe' : Option Code} {n : Nat} {s : Ch} {L : Loop} (hp : ρ r = some p)
    (hr : H[r]? = some (LB f ps ac bc st pe n s)) (hL : w.heap[p.b]? = some (.loop L)) :
    Rel sn ρ (H.set r (LB f ps ac bc st' pe' n s)) (w.putObj p.b (.loop { L with state := st', pending := pe' })) ∧ Ext sn ρ H w sn ρ (H.set r (LB f ps ac bc st' pe' n s)) (w.putObj p.b (.loop { L with state := st', pending := pe' })) := by
  obtain ⟨_, o, g1, g2⟩ := hR.own r _ p hr trivial hp
  obtain ⟨L', rfl, e1, e2, e3, e4, e5, e6, e7⟩ := LB.inv g2
  rw [hL] at g1
  cases g1
  exact hR.update hr trivial hp (blk' := LB f ps ac bc st' pe' n s) (obj := .loop { L with state := st', pending := pe' }) ⟨e1.size, e1.get, e2, e3, e4, e5, rfl, rfl⟩
def putsCh : List Tmp → List AV → Ch → Ch
  | t :: ts, x :: xs, s => putsCh ts xs (s.put t x)
  | _, _, s => s
def psOk (n : Nat) (ps : List Tmp) (k : Nat) : Bool := ps.length == k && ps.all fun t => decide (t < n)
theorem putsCh_ok {sn : Snap} {ρ : Env} {n : Nat} : ∀ (ps : List Tmp) (xs : List AV) (vs : List Value) (s : Ch) (tm : Array Value), SR sn ρ n s tm → VRs sn ρ xs vs → (∀ t ∈ ps, t < n) →
    SR sn ρ n (putsCh ps xs s) ((ps.zip vs).foldl (fun tmps (t, a) => tmps.setIfInBounds t a) tm)
  | [], xs, vs, s, tm, h, _, _ => by simpa [putsCh] using h
  | t :: ts, [], vs, s, tm, h, hv, _ => by
    have : vs = [] := List.length_eq_zero_iff.1 hv.1
    subst this
    simpa [putsCh] using h
  | t :: ts, x :: xs, [], s, tm, h, hv, _ => absurd hv.1 (by simp)
  | t :: ts, x :: xs, v :: vs, s, tm, h, hv, ht => by
    simp only [putsCh, List.zip_cons_cons, List.foldl_cons]
    have h1 : SR sn ρ n (s.put t x) (tm.setIfInBounds t v) := by
      have := SR.put (a := { tmps := tm, defers := [] }) h (ht t (by simp)) (hv.2 0 x v rfl rfl)
      simpa [Act.put] using this
    exact putsCh_ok ts xs vs _ _ h1 ⟨by simpa using hv.1, fun k x y hx hy => hv.2 (k + 1) x y (by simpa using hx) (by simpa using hy)⟩ fun q hq => ht q (by simp [hq])
def roundX (B n m : Nat) (r : Nat) (f : FuncId) (ps : Array Tmp) (ac bc : Code) (Q : CQ) : XQ := fun x s2 H2 => match x with
  | .normal => ∃ s' H3, Wk B n s2 H2 .nil H3 ∧ H3[r]? = some (LB f ps ac bc .busy none m s') ∧ Q (.ret (.bool true)) (H3.set r (LB f ps ac bc .ready none m s'))
  | .ret => ∃ s' H3, Wk B n s2 H2 .nil H3 ∧ H3[r]? = some (LB f ps ac bc .busy none m s') ∧ Q (.ret (.bool false)) (H3.set r (LB f ps ac bc .done (some .ret) m s'))
  | .exit i => ∃ s' H3, Wk B n s2 H2 .nil H3 ∧ H3[r]? = some (LB f ps ac bc .busy none m s') ∧ Q (.ret (.bool false)) (H3.set r (LB f ps ac bc .done (some (.exit i)) m s'))
  | .pan _ => False
def beginX (P : Program) (n B : Nat) (r : Nat) (f : FuncId) (ps : Array Tmp) (ac bc : Code) (cs : List Nat) (Q : CQ) : XQ := fun x s1 H1 => match x with
  | .normal => ∃ s', H1[r]? = some (LB f ps ac bc .ready none n s') ∧ cwp P n ⟨[], B, cs⟩ bc (roundX B n n r f ps ac bc Q) s1 (H1.set r (LB f ps ac bc .busy none n s'))
  | _ => False
theorem RYield.intro {P : Program} {n : Nat} {r : Nat} {args : List AV} {H : Heap} {Q : CQ} {f : FuncId} {pl : List Tmp} {ac bc : Code} {s : Ch} (cs : List Nat) (hr : H[r]? = some (LB f pl.toArray ac bc .ready none n s)) (hps : psOk n pl args.length = true) (hoka : codeOk n ac = true) (hokb : codeOk n bc = true)
    (h : cwp P n ⟨[], H.length, cs⟩ ac (beginX P n H.length r f pl.toArray ac bc cs Q) (putsCh pl args s) H) : RYield P r args H Q := by
  intro sn ρ w vs p hp hR hv
  simp only [psOk, Bool.and_eq_true, beq_iff_eq, List.all_eq_true, decide_eq_true_eq] at hps
  obtain ⟨_, o, g1, g2⟩ := hR.own r _ p hr trivial hp
  obtain ⟨L, rfl, e1, e2, e3, e4, e5, e6, e7⟩ := LB.inv g2
  have hsz : vs.size = L.params.size := by rw [e3]; have := hv.1; simp at this ⊢; omega
  have hE : ∀ {sn' ρ' H' w'}, ExtB H.length sn ρ H w sn' ρ' H' w' → Ext sn ρ H w sn' ρ' H' w' := fun h => h.ext hR
  refine ⟨_, _, _, _, run_yield g1 hsz, ?_⟩
  refine roundIn_of_wpIn trivial ?_
  have hz : ((L.params.zip vs).foldl (fun tmps (x : Tmp × Value) => tmps.setIfInBounds x.1 x.2) L.tmps) = ((pl.zip vs.toList).foldl (fun tmps (x : Tmp × Value) => tmps.setIfInBounds x.1 x.2) L.tmps) := by
    rw [e3, ← Array.foldl_toList]
    simp
  have hs := putsCh_ok pl args vs.toList s L.tmps e1 hv hps.2
  rw [← hz] at hs
  rw [e4, e5]
  refine wpIn_mono ((cwp_sound ac hoka _ _ _ h) (some p.b) sn ρ w { tmps := ((L.params.zip vs).foldl (fun tmps (x : Tmp × Value) => tmps.setIfInBounds x.1 x.2) L.tmps), defers := [] } hR hs rfl (Nat.le_refl _)) ?_
  rintro e a1 w1 ⟨sn1, ρ1, H1, s1, x, k1, k2, k3, k4, k5, k6⟩
  cases x with
  | normal =>
    cases e <;> simp [AXR] at k1
    obtain ⟨s', hr1, hb⟩ := k6
    have hp1 : ρ1 r = some p := by rw [k5.env r (List.getElem?_eq_some_iff.1 hr).1]; exact hp
    obtain ⟨_, o1, g3, g4⟩ := k2.own r _ p hr1 trivial hp1
    obtain ⟨L1, rfl, f1, f2, f3, f4, f5, f6, f7⟩ := LB.inv g4
    obtain ⟨q1, q2⟩ := k2.loop (st' := .busy) (pe' := none) hp1 hr1 g3
    have hL : ({ L1 with state := .busy, pending := none } : Loop) = { L1 with state := .busy } := by rw [← f7]
    rw [hL] at q1 q2
    refine ⟨_, run_beginRound g3 f6, ?_⟩
    refine wpIn_mono ((cwp_sound bc hokb _ _ _ hb) (some p.b) sn1 ρ1 _ a1 q1 k3 k4 (by simp; exact k5.len)) ?_
    rintro e2 a2 w2 ⟨sn2, ρ2, H2, s2, x2, m1, m2, m3, m4, m5, m6⟩
    have hext : ExtB H.length sn ρ H w sn2 ρ2 H2 w2 := (k5.trans (q2.b k5.len)).trans m5
    have fin : ∀ (jump : Option Code) (s3 : Ch) (H3 : Heap), Wk H.length n s2 H2 .nil H3 → H3[r]? = some (LB f pl.toArray ac bc .busy none n s3) → Q (.ret (.bool jump.isNone)) (H3.set r (LB f pl.toArray ac bc (if jump.isNone then .ready else .done) jump n s3)) →
        ∃ v w', (Instr.endRound p.b jump).run P w2 = .ok v w' ∧ ∃ sn' ρ' H' out, OutR sn' ρ' out (.returned v) ∧ Rel sn' ρ' H' w' ∧ Ext sn ρ H w sn' ρ' H' w' ∧ Q out H' := fun jump s3 H3 hw hr3 hq => by
      obtain ⟨sn3, ρ3, n1, n2, n3⟩ := hw sn2 ρ2 w2 a2.tmps hext.len m2 m3
      have hp3 : ρ3 r = some p := by rw [n3.env r (List.getElem?_eq_some_iff.1 hr).1, hext.env r (List.getElem?_eq_some_iff.1 hr).1]; exact hp
      obtain ⟨_, o3, g5, g6⟩ := n1.own r _ p hr3 trivial hp3
      obtain ⟨L3, rfl, _⟩ := LB.inv g6
      obtain ⟨q3, q4⟩ := n1.loop (st' := if jump.isNone then .ready else .done) (pe' := jump) hp3 hr3 g5
      exact ⟨_, _, run_endRound jump g5, sn3, ρ3, _, .ret (.bool jump.isNone), .bool _ _, q3, hE ((hext.trans n3).trans (q4.b n3.len)), hq⟩
    cases x2 with
    | normal =>
      cases e2 <;> simp [AXR] at m1
      obtain ⟨s3, H3, h1, h2, h3⟩ := m6
      exact fin none s3 H3 h1 h2 h3
    | ret =>
      cases e2 <;> simp [AXR] at m1
      obtain ⟨s3, H3, h1, h2, h3⟩ := m6
      exact fin (some .ret) s3 H3 h1 h2 h3
    | exit i =>
      cases e2 <;> simp [AXR] at m1
      subst m1
      obtain ⟨s3, H3, h1, h2, h3⟩ := m6
      exact fin (some (.exit i)) s3 H3 h1 h2 h3
    | pan v => exact m6.elim
  | _ => exact k6.elim
end Go.AM
set_option linter.unusedVariables false
set_option linter.unusedSimpArgs false
namespace Go.AM
structure NO (d : Nat) (sn : Snap) (ρ : Env) (H : Heap) (w : World) : Prop where
  obj : w.heap[d]? = some (.deferred (some []))
  sn : sn d = none
  own : ¬ Owned ρ H d
theorem NO.lt {d : Nat} {sn : Snap} {ρ : Env} {H : Heap} {w : World} (h : NO d sn ρ H w) : d < w.heap.size := (Array.getElem?_eq_some_iff.1 h.obj).1
theorem NO.ext {d B : Nat} {sn sn' : Snap} {ρ ρ' : Env} {H H' : Heap} {w w' : World} (h : NO d sn ρ H w) (e : ExtB B sn ρ H w sn' ρ' H' w') : NO d sn' ρ' H' w' :=
  ⟨(e.frame d h.lt h.own).trans h.obj, by
    by_cases h1 : sn' d = sn d
    · rw [h1]; exact h.sn
    · rcases e.newsnap d h1 with h2 | h2
      · exact absurd h.lt (by omega)
      · exact absurd h2 h.own, fun ho => by
    rcases e.newown d ho with h2 | h2
    · exact absurd h.lt (by omega)
    · exact h.own h2⟩
theorem Rel.other {sn : Snap} {ρ : Env} {H : Heap} {w : World} (h : Rel sn ρ H w) {d : Nat} (hs : sn d = none) (ho : ¬ Owned ρ H d) (o : Obj) : Rel sn ρ H (w.putObj d o) := by
  refine ⟨h.gl, fun b o' hb => ?_, fun r blk p h1 h2 h3 => ?_, h.inj, h.top⟩
  · rw [World.putObj_heap_other (fun e => by subst e; rw [hs] at hb; cases hb)]; exact h.snap b o' hb
  · obtain ⟨g1, o', g2, g3⟩ := h.own r blk p h1 h2 h3
    exact ⟨g1, o', by rw [World.putObj_heap_other (fun e => ho ⟨r, blk, p, h1, h2, h3, e⟩)]; exact g2, g3⟩
theorem ExtB.other {B : Nat} {sn sn' : Snap} {ρ ρ' : Env} {H H' : Heap} {w w' : World} (h : ExtB B sn ρ H w sn' ρ' H' w') {d : Nat} (hd : w.heap.size ≤ d) (o : Obj) : ExtB B sn ρ H w sn' ρ' H' (w'.putObj d o) :=
  ⟨h.env, h.len, h.snap, by rw [World.putObj_size]; exact h.below, h.os, h.tape, h.output, fun b hb ho => by rw [World.putObj_heap_other (by omega)]; exact h.frame b hb ho, h.newsnap, h.newown⟩
def chain (P : Program) (E : Exit → Act → World → Prop) : List Code → Act → World → Prop
  | [], a, w => E .normal a w
  | c :: cs, a, w => c.wpIn Fence.wide 0 P (Exit.then (chain P E cs) E) a w
theorem chain_mono {P : Program} {E E' : Exit → Act → World → Prop} (h : ∀ e a w, E e a w → E' e a w) : ∀ (cs : List Code) (a : Act) (w : World), chain P E cs a w → chain P E' cs a w
  | [], a, w, hc => h _ _ _ hc
  | c :: cs, a, w, hc => wpIn_mono hc fun e a w he => by
    cases e <;> first | exact chain_mono h cs _ _ he | exact h _ _ _ he
def RR (B : Nat) (sn : Snap) (ρ : Env) (H : Heap) (w : World) (Q : CQ) : Ending → World → Prop := fun e w' =>
  ∃ sn' ρ' H' out, OutR sn' ρ' out e ∧ Rel sn' ρ' H' w' ∧ ExtB B sn ρ H w sn' ρ' H' w' ∧ Q out H'
theorem RR.ext {B : Nat} {sn sn' : Snap} {ρ ρ' : Env} {H H' : Heap} {w w' : World} {Q : CQ} (h : ExtB B sn ρ H w sn' ρ' H' w') : ∀ e w2, RR B sn' ρ' H' w' Q e w2 → RR B sn ρ H w Q e w2 :=
  fun e w2 ⟨sn2, ρ2, H2, out, g1, g2, g3, g4⟩ => ⟨sn2, ρ2, H2, out, g1, g2, h.trans g3, g4⟩
theorem leavesM_mono {P : Program} {fn : Func} {tm : Array Value} {R R' : Ending → World → Prop} (h : ∀ e w, R e w → R' e w) : ∀ (ds : List Deferred), ∀ (u : FrameMode) (w : World), LeavesInM Fence.wide 0 P fn tm R ds u w → LeavesInM Fence.wide 0 P fn tm R' ds u w
  | [], u, w, hl => by
    cases u <;> simp only [LeavesInM, LeavesIn] at hl ⊢
    · obtain ⟨v, h1, h2⟩ := hl; exact ⟨v, h1, h _ _ h2⟩
    · exact h _ _ hl
  | d :: ds, u, w, hl => by
    simp only [LeavesInM] at hl ⊢
    refine ⟨hl.1, ?_⟩
    rcases hl.2 with ⟨r, w', h1, h2, h3⟩ | ⟨h0, fv, cap, f, args, h1, h2, h3, h4⟩
    · exact .inl ⟨r, w', h1, h2, leavesM_mono h ds _ _ h3⟩
    · refine .inr ⟨h0, fv, cap, f, args, h1, h2, h3, h4.mono fun e u' w' he => ?_⟩
      cases e <;> first | exact leavesM_mono h ds _ _ he | exact h _ _ he
theorem postM_mono {P : Program} {fn : Func} {R R' : Ending → World → Prop} (h : ∀ e w, R e w → R' e w) : ∀ (e : Exit) (a : Act) (w : World), bodyPostM Fence.wide 0 P fn R e a w → bodyPostM Fence.wide 0 P fn R' e a w := fun e a w hp => by
  cases e <;> simp only [bodyPostM] at hp ⊢ <;> first | exact leavesM_mono h _ _ _ hp | exact h _ _ hp
def FWp (P : Program) (n B : Nat) (fn : Func) (Q : CQ) (cs : List Code) (s : Ch) (H : Heap) : Prop :=
  ∀ (sn : Snap) (ρ : Env) (w : World) (a : Act), Rel sn ρ H w → SR sn ρ n s a.tmps → a.defers = [] → B ≤ H.length → chain P (bodyPostM Fence.wide 0 P fn (RR B sn ρ H w Q)) cs a w
theorem FWp.split {P : Program} {n B : Nat} {fn : Func} {Q : CQ} {x y : Code} {cs : List Code} {s : Ch} {H : Heap} (h : FWp P n B fn Q (x :: y :: cs) s H) : FWp P n B fn Q (.seq x y :: cs) s H := fun sn ρ w a hR hs hd hB =>
  wpIn_seq (wpIn_mono (h sn ρ w a hR hs hd hB) fun e a w he => by cases e <;> exact he)
theorem FWp.step {P : Program} {n B : Nat} {fn : Func} {Q : CQ} {x : Code} {cs : List Code} {s : Ch} {H : Heap} (cu : List Nat) (hn : Nat.beq fn.ntmps n = true) (hok : codeOk n x = true) (h : cwp P n ⟨[], B, cu⟩ x (thenX (FWp P n B fn Q cs) (bodyX P fn.results.toList Q)) s H) : FWp P n B fn Q (x :: cs) s H := by
  have hn := Nat.eq_of_beq_eq_true hn
  subst hn
  intro sn ρ w a hR hs hd hB
  refine wpIn_mono ((cwp_sound x hok _ _ _ h) none sn ρ w a hR hs hd hB) ?_
  rintro e a' w' ⟨sn', ρ', H', s', ax, h1, h2, h3, h4, h5, h6⟩
  have h4' : a'.defers = [] := h4
  cases ax with
  | normal =>
    cases e <;> simp [AXR] at h1
    exact chain_mono (postM_mono (RR.ext h5)) _ _ _ (h6 sn' ρ' w' a' h2 h3 h4 h5.len)
  | ret =>
    cases e <;> simp [AXR] at h1
    obtain ⟨v, cv, g1, g2, g3⟩ := packRes_ok h2 h3 fn h6
    simp only [Exit.then, bodyPostM, h4', LeavesInM, LeavesIn]
    exact ⟨cv, g1, sn', ρ', H', .ret v, g2, h2, h5, g3⟩
  | exit id => exact h6.elim
  | pan v =>
    cases e <;> simp [AXR] at h1
    rename_i ch
    obtain ⟨cv, rfl, hcv⟩ := AXR.pan_out (v := v) (ch := ch) h1
    simp only [Exit.then, bodyPostM, h4', LeavesInM, LeavesIn]
    exact ⟨sn', ρ', H', .pan v, hcv, h2, h5, h6⟩
theorem leave_ret {P : Program} {B : Nat} {fn : Func} {Q : CQ} {sn0 sn : Snap} {ρ0 ρ : Env} {H0 H : Heap} {w0 w : World} {s : Ch} {a : Act} {d : Nat} (hd : a.defers = [{ target := .collected d, args := #[] }]) (hdw : w0.heap.size ≤ d) (hno : NO d sn ρ H w) (hR : Rel sn ρ H w)
    (hs : SR sn ρ fn.ntmps s a.tmps) (hE : ExtB B sn0 ρ0 H0 w0 sn ρ H w) (h : packRes (aResults P s H fn.results.toList) (fun v => Q (.ret v) H)) : LeavesInM Fence.wide 0 P fn a.tmps (RR B sn0 ρ0 H0 w0 Q) a.defers .returning w := by
  rw [hd]
  have hR2 := hR.other hno.sn hno.own (.deferred none)
  obtain ⟨v, cv, g1, g2, g3⟩ := packRes_ok hR2 hs fn h
  refine ⟨by simp, .inl ⟨d, _, rfl, run_takeDeferred hno.obj, ?_⟩⟩
  simp only [LeavesInM, LeavesIn]
  exact ⟨cv, g1, sn, ρ, H, .ret v, g2, hR2, hE.other hdw _, g3⟩
theorem leave_pan {P : Program} {B : Nat} {fn : Func} {Q : CQ} {sn0 sn : Snap} {ρ0 ρ : Env} {H0 H : Heap} {w0 w : World} {a : Act} {d : Nat} {v : AV} {cv : Value} (hd : a.defers = [{ target := .collected d, args := #[] }]) (hdw : w0.heap.size ≤ d) (hno : NO d sn ρ H w) (hR : Rel sn ρ H w)
    (hv : VR sn ρ v cv) (hE : ExtB B sn0 ρ0 H0 w0 sn ρ H w) (h : Q (.pan v) H) : LeavesInM Fence.wide 0 P fn a.tmps (RR B sn0 ρ0 H0 w0 Q) a.defers (.panicking [{ v := cv, recovered := false }]) w := by
  rw [hd]
  have hR2 := hR.other hno.sn hno.own (.deferred none)
  refine ⟨by simp, .inl ⟨d, _, rfl, run_takeDeferred hno.obj, ?_⟩⟩
  simp only [LeavesInM, LeavesIn]
  exact ⟨sn, ρ, H, .pan v, hv, hR2, hE.other hdw _, h⟩
def afterL (P : Program) (n B : Nat) (rs : List ResultVar) (Q : CQ) (z : Code) (s : Ch) (H : Heap) : Prop :=
  ∃ s' H', Wk B n s H s' H' ∧ ∀ dd, cwp P n ⟨dd, B, []⟩ z (bodyX P rs Q) s' H'
def rangeEnd (P : Program) (n B : Nat) (rs : List ResultVar) (Q : CQ) (z : Code) (id : Nat) (r : Nat) (f : FuncId) (ps : Array Tmp) (ac bc : Code) (s : Ch) : CQ := fun o H => match o with
  | .pan v => Q (.pan v) H
  | .ret _ => ∃ st pe s3, H[r]? = some (LB f ps ac bc st pe n s3) ∧ st ≠ .busy ∧ (match pe with
    | none => afterL P n B rs Q z s (H.set r .dead)
    | some (.exit i) => i = id ∧ afterL P n B rs Q z s (H.set r .dead)
    | some .ret => packRes (aResults P s (H.set r .dead) rs) (fun v => Q (.ret v) (H.set r .dead))
    | _ => False)
theorem FWp.range {P : Program} {n B : Nat} {fn : Func} {Q : CQ} {id : Nat} {g : Operand} {pl : Array Tmp} {ac bc z : Code} {s : Ch} {H : Heap} {gf : FuncId} {first cap : List AV} (s0 : Ch) (hn : Nat.beq fn.ntmps n = true) (hz : codeOk n z = true)
    (hg : cev s g = .func (.func gf) first cap) (hE : Enters P gf) (hs0 : wkS s0 s)
    (h : ∀ f, ACalls P gf (first ++ [.yfn H.length] ++ cap) (H ++ [LB f pl ac bc .ready none n s0]) (rangeEnd P n B fn.results.toList Q z id H.length f pl ac bc s)) : FWp P n B fn Q [.block id (.rangeFunc g pl ac bc), z] s H := by
  have hn := Nat.eq_of_beq_eq_true hn
  subst hn
  intro sn ρ w a hR hs hd hB
  refine wpIn_block (wpIn_rangeFunc fun f _ => ?_)
  have hfv := cev_ok hR.gl hs g
  rw [hg] at hfv
  generalize hcf : a.eval g = cf at hfv
  obtain ⟨us, vs, rfl, e1, e2⟩ := hfv.func_inv
  have hgrow := hR.grow (w' := w.alloc (.deferred (some []))) (obj := .deferred (some [])) rfl
  have hpush : (w.alloc (.deferred (some []))).heap = w.heap.push (.deferred (some [])) := rfl
  have hsz : (w.alloc (.deferred (some []))).heap.size = w.heap.size + 1 := by rw [hpush, Array.size_push]
  have hnone : sn w.heap.size = none := by
    cases h0 : sn w.heap.size with
    | none => rfl
    | some o => have := (Array.getElem?_eq_some_iff.1 (hR.snap _ _ h0)).1; omega
  have hnown : ¬ Owned ρ H w.heap.size := fun ⟨r, blk, p, h1, h2, h3, h4⟩ => by
    obtain ⟨_, o, g2, _⟩ := hR.own r blk p h1 h2 h3
    have := (Array.getElem?_eq_some_iff.1 g2).1
    omega
  have no0 : NO w.heap.size sn ρ H (w.alloc (.deferred (some []))) := ⟨by rw [hpush]; simp, hnone, hnown⟩
  have ext0 : ExtB B sn ρ H w sn ρ H (w.alloc (.deferred (some []))) :=
    ⟨fun _ _ => rfl, hB, fun _ _ h => h, by rw [hsz]; omega, rfl, rfl, rfl, fun b hb _ => by rw [hpush, Array.getElem?_push, if_neg (by omega)], fun b hb => absurd rfl hb, fun b ho => .inr ho⟩
  generalize hL : ({ state := .ready, pending := none, fn := f, tmps := a.tmps, params := pl, assign := ac, body := bc, defers := w.heap.size } : Loop) = L
  obtain ⟨r1, x1⟩ := hgrow.push (blk := LB f pl ac bc .ready none fn.ntmps s0) (obj := .loop L) (w' := (w.alloc (.deferred (some []))).alloc (.loop L)) (sz := 0) (n := 0) rfl rfl rfl rfl trivial (by
    subst hL
    refine ⟨hs.size, fun t => ?_, rfl, rfl, rfl, rfl, rfl, rfl⟩
    rcases wkS_get hs0 t with h1 | h1
    · rw [h1]; exact .any _ _
    · rw [← h1]; exact (hs.get t).mono (fun _ _ h => h) (envPut_mono (hgrow.top _ (Nat.le_refl _))))
  have ext1 := ext0.trans (x1.b hB)
  have no1 := no0.ext (x1.b hB)
  rw [hsz] at r1 x1 ext1 no1
  have hargs : VRs sn (envPut ρ H.length ⟨w.heap.size + 1, 0, 0⟩) (first ++ [.yfn H.length] ++ cap) (us ++ #[Value.func (.yield (w.heap.size + 1)) #[] #[]] ++ vs).toList := by
    have m1 : VRs sn (envPut ρ H.length ⟨w.heap.size + 1, 0, 0⟩) first us.toList := ⟨e1.1, fun k x y hx hy => (e1.2 k x y hx hy).mono (fun _ _ h => h) x1.env⟩
    have m2 : VRs sn (envPut ρ H.length ⟨w.heap.size + 1, 0, 0⟩) cap vs.toList := ⟨e2.1, fun k x y hx hy => (e2.2 k x y hx hy).mono (fun _ _ h => h) x1.env⟩
    have m3 : VRs sn (envPut ρ H.length ⟨w.heap.size + 1, 0, 0⟩) [.yfn H.length] [Value.func (.yield (w.heap.size + 1)) #[] #[]] := ⟨rfl, fun k x y hx hy => by
      cases k with
      | zero =>
        simp at hx hy
        subst hx hy
        exact .yfn _ _ ⟨w.heap.size + 1, 0, 0⟩ (envPut_same _ _ _)
      | succ k => simp at hx⟩
    have := (m1.append m3).append m2
    simpa using this
  refine ⟨w.heap.size + 1, [{ target := .collected w.heap.size, args := #[] }], (w.alloc (.deferred (some []))).alloc (.loop L), { target := .fn (.func gf) vs, args := us ++ #[Value.func (.yield (w.heap.size + 1)) #[] #[]] }, (w.alloc (.deferred (some []))).alloc (.loop L), gf,
    us ++ #[Value.func (.yield (w.heap.size + 1)) #[] #[]] ++ vs, (w.alloc (.deferred (some []))).alloc (.loop L), ?_, ?_, fun _ _ => trivial, ?_, FR_room (ro := none), callsIn_wide.2 ((h f sn _ _ _ r1 hargs).mono ?_)⟩
  · rw [← hL]; exact run_enterLoop_outer f a.tmps pl ac bc
  · have hc : ∀ v, a.eval (.const v) = v := fun _ => rfl
    simp [resolve, rangeCall, hcf, Deferred.ofValue, hc]
  · simp only [invoke]; exact hE _ _
  rintro e w3 ⟨sn3, ρ3, H3, out, g1, g2, g3, g4⟩
  have ext3 := ext1.trans (g3.b ext1.len)
  have no3 := no1.ext (g3.b ext1.len)
  cases e with
  | returned v =>
    obtain ⟨x, rfl, hx⟩ := g1.ret_inv
    obtain ⟨st, pe, s3, q1, q2, q3⟩ := g4
    have hp3 : ρ3 H.length = some ⟨w.heap.size + 1, 0, 0⟩ := g3.env _ _ (envPut_same _ _ _)
    obtain ⟨_, o3, k1, k2⟩ := g2.own _ _ _ q1 trivial hp3
    obtain ⟨L3, rfl, f1, f2, f3, f4, f5, f6, f7⟩ := LB.inv k2
    obtain ⟨t1, t2⟩ := g2.loop (st' := .exhausted) (pe' := pe) hp3 q1 k1
    have hLL : ({ L3 with state := .exhausted, pending := pe } : Loop) = { L3 with state := .exhausted } := by rw [← f7]
    rw [hLL] at t1 t2
    obtain ⟨t3, t4⟩ := t1.drop H.length
    rw [List.set_set] at t3 t4
    have ext5 := (ext3.trans (t2.b ext3.len)).trans (t4.b (by simp; exact ext3.len))
    have no5 := (no3.ext (t2.b ext3.len)).ext (t4.b (by simp; exact ext3.len))
    have hmono : ∀ r p, ρ r = some p → ρ3 r = some p := fun r p hp => g3.env _ _ (x1.env _ _ hp)
    have hs5 : SR sn3 ρ3 fn.ntmps s a.tmps := hs.mono g3.snap hmono
    have after : afterL P fn.ntmps B fn.results.toList Q z s (H3.set H.length .dead) →
        z.wpIn Fence.wide 0 P (Exit.then (bodyPostM Fence.wide 0 P fn (RR B sn ρ H w Q) .normal) (bodyPostM Fence.wide 0 P fn (RR B sn ρ H w Q))) { a with defers := [{ target := .collected w.heap.size, args := #[] }] ++ a.defers } (w3.putObj (w.heap.size + 1) (.loop { L3 with state := .exhausted })) := by
      rintro ⟨s6, H6, hw6, hc6⟩
      refine wpIn_mono ((SWp.wk hw6 (cwp_sound z hz _ _ _ (hc6 ([{ target := .collected w.heap.size, args := #[] }] ++ a.defers)))) none sn3 ρ3 _ _ t3 hs5 rfl ext5.len) ?_
      rintro e a' w' ⟨sn', ρ', H', s', ax, h1, h2, h3, h4, h5, h6⟩
      have h4' : a'.defers = [{ target := .collected w.heap.size, args := #[] }] := by have : a'.defers = [{ target := .collected w.heap.size, args := #[] }] ++ a.defers := h4; rw [this, hd]; rfl
      have ext7 := ext5.trans h5
      have no7 := no5.ext h5
      cases ax with
      | normal => cases e <;> simp [AXR] at h1; exact leave_ret h4' (Nat.le_refl _) no7 h2 h3 ext7 h6
      | ret => cases e <;> simp [AXR] at h1; exact leave_ret h4' (Nat.le_refl _) no7 h2 h3 ext7 h6
      | exit id => exact h6.elim
      | pan v =>
        cases e <;> simp [AXR] at h1
        rename_i ch
        obtain ⟨cv, rfl, hcv⟩ := AXR.pan_out (v := v) (ch := ch) h1
        exact leave_pan h4' (Nat.le_refl _) no7 h2 hcv ext7 h6
    have hend := run_endLoop (P := P) k1 (by rw [f6]; exact q2)
    generalize w3.putObj (w.heap.size + 1) (.loop { L3 with state := .exhausted }) = w4 at *
    refine ⟨L3.pending, _, hend, ?_⟩
    rw [f7]
    cases pe with
    | none => exact after q3
    | some c =>
      cases c with
      | exit i =>
        obtain ⟨rfl, q3⟩ := q3
        refine wpIn_exit ?_
        simp only [Exit.inBlock, if_true]
        exact after q3
      | ret =>
        refine wpIn_ret ?_
        exact leave_ret (s := s) (by simp [hd]) (Nat.le_refl _) no5 t3 hs5 ext5 q3
      | _ => exact q3.elim
  | panicked ch =>
    obtain ⟨x, cv, rfl, rfl, hx⟩ := g1.pan_inv
    exact leave_pan (a := { a with defers := [{ target := .collected w.heap.size, args := #[] }] ++ a.defers }) (by simp [hd]) (Nat.le_refl _) no3 g2 hx ext3 g4
  | outgrown => cases out <;> exact g1.elim
theorem ACalls.introR {P : Program} {f : FuncId} {fn : Func} {c : Code} {n : Nat} {args : List AV} {H : Heap} {Q : CQ} (hf : P.funcs[f]? = some fn) (hb : fn.body = some c) (hnt : Nat.beq fn.ntmps n = true) (hn : Nat.ble args.length n = true)
    (h : FWp P n H.length fn Q [c] (argsCh args 0 .nil) H) : ACalls P f args H Q := by
  have hnt := Nat.eq_of_beq_eq_true hnt
  subst hnt
  intro sn ρ w vs hR hv
  refine callsIn_wide.1 (callsIn_of_wp_marks (n := 0) hf hb trivial ?_)
  refine wpIn_mono (h sn ρ w _ hR (start_ok hv (Nat.le_of_ble_eq_true hn)) rfl (Nat.le_refl _)) ?_
  intro e a w1 hp
  have hp' : bodyPostM Fence.wide 0 P fn (RR H.length sn ρ H w Q) e a w1 := by cases e <;> exact hp
  exact postM_mono (fun e w3 ⟨sn2, ρ2, H2, out, g1, g2, g3, g4⟩ => ⟨sn2, ρ2, H2, out, g1, g2, g3.ext hR, g4⟩) _ _ _ hp'
theorem seq_cutS {P : Program} {n : Nat} {D : Fx} {x y : Code} {Q : XQ} {s : Ch} {H : Heap} {A : Type} (st : A → Ch) (hp : A → Heap) (inv : A → Prop)
    (h1 : ∀ K : KQ, (∀ a s' H', inv a → Wk D.B n s' H' (st a) (hp a) → K s' H') → cwp P n D x (thenX K Q) s H) (h2 : ∀ a, inv a → SWp P n D y Q (st a) (hp a)) : seqD true P n D x y Q s H := by
  unfold seqD
  rw [if_pos rfl]
  refine ⟨fun s' H' => ∃ a, inv a ∧ Wk D.B n s' H' (st a) (hp a), h1 _ fun a s' H' hi hw => ⟨a, hi, hw⟩, ?_⟩
  rintro s' H' ⟨a, hi, hw⟩
  exact SWp.wk hw (h2 a hi)
theorem yX_normal {P : Program} {ops : Array Oper} {post : List Oper} {f : Operand} {as : Array Operand} {d : Option Tmp} {Q : XQ} {s : Ch} {H : Heap} : yX P ops post f as d Q .normal s H = ∃ r, cev s f = .yfn r ∧ RYield P r (evs s as) H (fun o H' => match o with | .ret v => cops P ops post Q (s.put? d v) H' | .pan v => Q (.pan v) s H') := id rfl
theorem beginX_normal {P : Program} {n B r : Nat} {f : FuncId} {ps : Array Tmp} {ac bc : Code} {cs : List Nat} {Q : CQ} {s1 : Ch} {H1 : Heap} : beginX P n B r f ps ac bc cs Q .normal s1 H1 = ∃ s', H1[r]? = some (LB f ps ac bc .ready none n s') ∧ cwp P n ⟨[], B, cs⟩ bc (roundX B n n r f ps ac bc Q) s1 (H1.set r (LB f ps ac bc .busy none n s')) := id rfl
theorem roundX_normal {B n m r : Nat} {f : FuncId} {ps : Array Tmp} {ac bc : Code} {Q : CQ} {s2 : Ch} {H2 : Heap} : roundX B n m r f ps ac bc Q .normal s2 H2 = ∃ s' H3, Wk B n s2 H2 .nil H3 ∧ H3[r]? = some (LB f ps ac bc .busy none m s') ∧ Q (.ret (.bool true)) (H3.set r (LB f ps ac bc .ready none m s')) := id rfl
theorem roundX_ret {B n m r : Nat} {f : FuncId} {ps : Array Tmp} {ac bc : Code} {Q : CQ} {s2 : Ch} {H2 : Heap} : roundX B n m r f ps ac bc Q .ret s2 H2 = ∃ s' H3, Wk B n s2 H2 .nil H3 ∧ H3[r]? = some (LB f ps ac bc .busy none m s') ∧ Q (.ret (.bool false)) (H3.set r (LB f ps ac bc .done (some .ret) m s')) := id rfl
attribute [go_sem] yX_normal beginX_normal roundX_normal roundX_ret
theorem aK_int {P : Program} {ops : Array Oper} {k : IntKind} {n : Int} {dd : Tmp} {rest : List Oper} {Q : XQ} {s : Ch} {H : Heap} : aK P ops (.int k n) (some dd) rest Q s H = hK P ops rest Q (s.put dd (.int k n)) H := id rfl
attribute [go_sem] aK_int
end Go.AM
set_option linter.unusedVariables false
set_option linter.unusedSimpArgs false
namespace Go.AM
theorem aK_tup {P : Program} {ops : Array Oper} {vs : List AV} {rest : List Oper} {Q : XQ} {s : Ch} {H : Heap} : aK P ops (.tuple vs) none rest Q s H = hK P ops rest Q s H := id rfl
attribute [go_sem] aK_tup
end Go.AM
set_option linter.unusedVariables false
set_option linter.unusedSimpArgs false
namespace Go.AM
open Go.Conc
def OpsAt (ro : Option Nat) (P : Program) (ops : Array Oper) (Q : Exit → Act → World → Prop) (l : List Nat) (a : Act) (w : World) : Prop :=
  ∀ (b : Frame) (k : List Item) (cs : List Frame), b.roundOf = ro → (FR ro).room (cs.length + 1 + 0) →
    ∃ e a' w', Q e a' w' ∧ ArrivesIn (Machine.fenced P (FR ro)) P (lone (b.atR a (.inRegion ops l :: k)) cs w) b k cs e a' w'
section
variable {ro : Option Nat} {P : Program} {ops : Array Oper} {Q : Exit → Act → World → Prop} {l rest : List Nat} {i id : Nat} {a : Act} {w w' : World} {o : Oper} {v : Value}
theorem OpsAt.of (h : wpOpsIn (FR ro) 0 P ops Q l a w) : OpsAt ro P ops Q l a w := fun b k cs h1 h3 => wp_opsIn l a w h b k cs h1 trivial h3
theorem OpsAt.region (h : OpsAt ro P ops Q (List.range ops.size) a w) : (Code.region id ops false).wpIn (FR ro) 0 P Q a w := fun b k cs hro hb hr => by
  obtain ⟨e, a', w', q, r⟩ := h b k cs hro hr
  exact ⟨e, a', w', q, .of_steps (.one (fenced_calm hb hr rfl) stepR_region) r⟩
theorem OpsAt.draw (h : ∀ t, OpsAt ro P ops Q (Region.schedule (P.follows .mixedOrders) ops t) a { w with drawn := w.drawn + 1 }) : (Code.region id ops true).wpIn (FR ro) 0 P Q a w := fun b k cs hro hb hr => by
  obtain ⟨e, a', w', q, r⟩ := h _ b k cs hro hr
  exact ⟨e, a', w', q, .of_steps (.one (fenced_calm hb hr rfl) stepR_region_draw) r⟩
theorem OpsAt.value (ho : ops[i]? = some o) (hw : Region.wanted o (yielded ops a.tmps) = true) (hr : (o.semAt ro a.eval).run P w = .ok (.value v) w') (h : OpsAt ro P ops Q rest (a.put o.dst v) w') : OpsAt ro P ops Q (i :: rest) a w := fun b k cs hro hroom => by
  obtain ⟨e, a', w2, q, r⟩ := h b k cs hro hroom
  have hf := Frame.finish_atR b a ops i rest k v
  rw [ho] at hf
  refine ⟨e, a', w2, q, .of_steps (.one (fenced_oper (n := 0) trivial hroom ho (fun _ _ => trivial)) (step_lone_go ?_)) r⟩
  rw [stepGR_op ho hw, hro]
  simp only [Option.bind_some] at hf
  rw [← hf]
  simp [stepG.apply, hr]
end
end Go.AM
set_option linter.unusedVariables false
set_option linter.unusedSimpArgs false
namespace Go.AM
open Go.Conc
def SOpsC (P : Program) (n : Nat) (D : Fx) (ops : Array Oper) (l : List Nat) (Q : XQ) (s : Ch) (H : Heap) : Prop :=
  ∀ (ro : Option Nat) (sn : Snap) (ρ : Env) (w : World) (a : Act), Rel sn ρ H w → SR sn ρ n s a.tmps → a.defers = D.D → D.B ≤ H.length →
    OpsAt ro P ops (fun e a' w' => ∃ sn' ρ' H' s' x, AXR sn' ρ' x e ∧ Rel sn' ρ' H' w' ∧ SR sn' ρ' n s' a'.tmps ∧ a'.defers = D.D ∧ ExtB D.B sn ρ H w sn' ρ' H' w' ∧ Q x s' H') l a w
def valP : AR → (AV → Prop) → Prop
  | .val v, K => K v
  | .chk p r, K => p ∧ valP r K
  | _, _ => False
theorem valP_ok {P : Program} {run : Result Next} {sn : Snap} {ρ : Env} {H : Heap} {w : World} {K : AV → Prop} : ∀ {r : AR}, r.ok P run sn ρ H w → valP r K → ∃ v cv, K v ∧ run = .ok (.value cv) w ∧ VR sn ρ v cv
  | .val v, h, hk => by
    obtain ⟨cv, h1, h2⟩ := h
    exact ⟨v, cv, hk, h1, h2⟩
  | .chk p r, h, hk => valP_ok (h hk.1) hk.2
  | .bad, _, hk => hk.elim
  | .ndb _, _, hk => hk.elim
  | .alloc _ _, _, hk => hk.elim
  | .upd _ _, _, hk => hk.elim
  | .call _ _, _, hk => hk.elim
  | .pan _, _, hk => hk.elim
theorem valP_enters {P : Program} {K : AV → Prop} : ∀ {r : AR}, valP r K → r.enters P
  | .val v, _ => trivial
  | .chk p r, h => by
    exact fun _ => valP_enters (P := P) h.2
  | .bad, hk => hk.elim
  | .ndb _, hk => hk.elim
  | .alloc _ _, hk => hk.elim
  | .upd _ _, hk => hk.elim
  | .call _ _, hk => hk.elim
  | .pan _, hk => hk.elim
section
variable {P : Program} {n : Nat} {D : Fx} {ops : Array Oper} {Q : XQ} {s : Ch} {H : Heap} {l rest : List Nat} {i id : Nat} {o : Oper}
theorem SOpsC.of (hd : ops.all noDef = true) (h : SOps P n D ops l Q s H) : SOpsC P n D ops l Q s H := fun ro sn ρ w a hR hs hdf hB => OpsAt.of (wpOps_in hd notOut _ _ _ (h sn ρ w a hR hs hdf hB))
theorem SOpsC.region (h : SOpsC P n D ops (List.range ops.size) Q s H) : SWp P n D (.region id ops false) Q s H := fun ro sn ρ w a hR hs hdf hB => OpsAt.region (h ro sn ρ w a hR hs hdf hB)
theorem SOpsC.val (ho : ops[i]? = some o) (hg : o.guard = none) (hd : dstOk n o = true) (hn : noDef o = true) (h : valP (aop P s H o.op) fun v => SOpsC P n D ops rest Q (s.put? o.dst v) H) : SOpsC P n D ops (i :: rest) Q s H := fun ro sn ρ w a hR hs hdf hB => by
  obtain ⟨v, cv, hk, hr, hv⟩ := valP_ok (aop_ok hR hs o (valP_enters h)) h
  refine OpsAt.value (v := cv) (w' := w) ho (by simp [Region.wanted, hg]) ?_ ?_
  · rw [Oper.semAt_eq _ _ _ (fun c hc => by rw [noDef, hc] at hn; cases hn)]
    exact hr
  · exact hk ro sn ρ w (a.put o.dst cv) hR (hs.put? hd hv) (by rw [put_defers]; exact hdf) hB
theorem any_step {ops : Array Oper} {R : List Nat → Prop} {fuel : Nat} {listed : Array Bool} (h0 : Region.ready .any ops listed = [] → R [])
    (h : ∀ i ∈ Region.ready .any ops listed, ∀ t, R (i :: Region.linearise.go .any ops fuel t (listed.setIfInBounds i true) [])) : ∀ t, R (Region.linearise.go .any ops (fuel + 1) t listed []) := fun t => by
  simp only [Region.linearise.go]
  change R (match (Region.ready .any ops listed)[t % (Region.ready .any ops listed).length]? with
    | some i => Region.linearise.go .any ops fuel (t / (Region.ready .any ops listed).length) (listed.setIfInBounds i true) [i]
    | none => [].reverse)
  cases hi : (Region.ready .any ops listed)[t % (Region.ready .any ops listed).length]? with
  | none =>
    refine h0 ?_
    cases hr : Region.ready .any ops listed with
    | nil => rfl
    | cons x xs =>
      rw [hr] at hi
      have hlt : t % (x :: xs).length < (x :: xs).length := Nat.mod_lt _ (by simp)
      rw [List.getElem?_eq_getElem hlt] at hi
      cases hi
  | some i =>
    simp only []
    rw [linearise_go_acc, List.reverse_singleton, List.singleton_append]
    exact h i (List.mem_of_getElem? hi) _
theorem SOpsC.draw (hm : P.follows .mixedOrders = true) (h : ∀ t, SOpsC P n D ops (Region.linearise.go .any ops ops.size t (Array.replicate ops.size false) []) Q s H) : SWp P n D (.region id ops true) Q s H := fun ro sn ρ w a hR hs hdf hB =>
  OpsAt.draw fun t => by
    have hR' : Rel sn ρ H { w with drawn := w.drawn + 1 } := ⟨hR.gl, hR.snap, hR.own, hR.inj, hR.top⟩
    simp only [Region.schedule, hm, Bool.true_or, if_true]
    have := h t ro sn ρ { w with drawn := w.drawn + 1 } a hR' hs hdf hB
    exact fun b k cs g1 g2 => by
      obtain ⟨e, a', w', ⟨sn2, ρ2, H2, s2, x2, k1, k2, k3, k4, k5, k6⟩, harr⟩ := this b k cs g1 g2
      exact ⟨e, a', w', ⟨sn2, ρ2, H2, s2, x2, k1, k2, k3, k4, ⟨k5.env, k5.len, k5.snap, k5.below, k5.os, k5.tape, k5.output, k5.frame, k5.newsnap, k5.newown⟩, k6⟩, harr⟩
theorem SOpsC.rng {t : TypeId} {x : Operand} {S : ByteArray} (ho : ops[i]? = some o) (hop : o.op = .range t x) (hg : o.guard = none) (hd : dstOk n o = true) (ht : P.underlying t = some .string) (hc : cev s x = .str S)
    (h : SOpsC P n D ops rest Q (s.put? o.dst (.ptr H.length 0 0)) (H ++ [.raw (fun o => o = .stringIter S 0)])) : SOpsC P n D ops (i :: rest) Q s H := fun ro sn ρ w a hR hs hdf hB => by
  have h1 := cev_ok hR.gl hs x
  rw [hc] at h1
  generalize hcv : a.eval x = cv at h1
  cases h1
  obtain ⟨q1, q2⟩ := hR.push (blk := .raw (fun o => o = .stringIter S 0)) (obj := .stringIter S 0) (w' := { w with heap := w.heap.push (.stringIter S 0) }) (sz := 1) (n := 1) rfl rfl rfl rfl trivial rfl
  refine OpsAt.value (v := .pointer (some ⟨w.heap.size, 0, none⟩)) (w' := { w with heap := w.heap.push (.stringIter S 0) }) ho (by simp [Region.wanted, hg]) ?_ ?_
  · rw [Oper.semAt_eq _ _ _ (fun c hc => by rw [hop] at hc; cases hc)]
    simp [execOp, hop, hcv, Instr.range, Sem.run_bind, run_underlying ht, newObj, Sem.run]
  · have := h ro sn _ { w with heap := w.heap.push (.stringIter S 0) } (a.put o.dst (.pointer (some ⟨w.heap.size, 0, none⟩))) q1 ((hs.mono q2.snap q2.env).put? hd (by
      have := VR.ptr (sn := sn) (envPut ρ H.length ⟨w.heap.size, 1, 1⟩) H.length 0 0 _ (envPut_same _ _ _)
      simpa using this)) (by rw [put_defers]; exact hdf) (Nat.le_trans hB q2.len)
    exact fun b k cs g1 g2 => by
      obtain ⟨e, a', w', ⟨sn2, ρ2, H2, s2, x2, k1, k2, k3, k4, k5, k6⟩, harr⟩ := this b k cs g1 g2
      exact ⟨e, a', w', ⟨sn2, ρ2, H2, s2, x2, k1, k2, k3, k4, (q2.b hB).trans k5, k6⟩, harr⟩
theorem SOpsC.next {x : Operand} {S : ByteArray} {r pos : Nat} (ho : ops[i]? = some o) (hop : o.op = .next x true) (hg : o.guard = none) (hd : dstOk n o = true) (hc : cev s x = .ptr r 0 0) (hH : H[r]? = some (.raw (fun o => o = .stringIter S pos))) (hp : pos < S.size)
    (h : SOpsC P n D ops rest Q (s.put? o.dst (.tuple [.bool true, .int .i64 pos, .int .i32 (Utf8.decode S pos).1])) (H.set r (.raw (fun o => o = .stringIter S (pos + (Utf8.decode S pos).2))))) : SOpsC P n D ops (i :: rest) Q s H := fun ro sn ρ w a hR hs hdf hB => by
  have h1 := cev_ok hR.gl hs x
  rw [hc] at h1
  generalize hcv : a.eval x = cv at h1
  cases h1 with
  | ptr _ _ _ _ p hpl =>
  obtain ⟨h2, obj, h3, h4⟩ := hR.own r _ p hH trivial hpl
  have h4 : obj = .stringIter S pos := h4
  subst h4
  obtain ⟨q1, q2⟩ := hR.update (blk' := .raw (fun o => o = .stringIter S (pos + (Utf8.decode S pos).2))) (obj := .stringIter S (pos + (Utf8.decode S pos).2)) hH trivial hpl rfl
  refine OpsAt.value (v := .tuple #[.bool true, goInt pos, .int .i32 (Utf8.decode S pos).1]) (w' := { w with heap := w.heap.setIfInBounds p.b (.stringIter S (pos + (Utf8.decode S pos).2)) }) ho (by simp [Region.wanted, hg]) ?_ ?_
  · rw [Oper.semAt_eq _ _ _ (fun c hc => by rw [hop] at hc; cases hc)]
    have hgo : (getObj p.b).run P w = .ok (.stringIter S pos) w := by simp [getObj, Sem.run, h3]
    have hst : ∀ o, (setObj p.b o).run P w = .ok () { w with heap := w.heap.setIfInBounds p.b o } := fun o => by simp [setObj, Sem.run, h3]
    simp only [execOp, hop, hcv, Nat.zero_mul, Nat.add_zero]
    simp [Instr.next, Sem.run_bind, hgo, hst, hp]
  · have := h ro sn ρ _ (a.put o.dst (.tuple #[.bool true, goInt pos, .int .i32 (Utf8.decode S pos).1])) q1 ((hs.mono q2.snap q2.env).put? hd (by
      refine .tuple _ _ _ rfl fun k x y hx hy => ?_
      match k with
      | 0 => simp at hx hy; subst hx hy; exact .bool _ _
      | 1 => simp at hx hy; subst hx hy; exact .int _ _ _
      | 2 => simp at hx hy; subst hx hy; exact .int _ _ _
      | k + 3 => simp at hx)) (by rw [put_defers]; exact hdf) (Nat.le_trans hB q2.len)
    exact fun b k cs g1 g2 => by
      obtain ⟨e, a', w', ⟨sn2, ρ2, H2, s2, x2, k1, k2, k3, k4, k5, k6⟩, harr⟩ := this b k cs g1 g2
      exact ⟨e, a', w', ⟨sn2, ρ2, H2, s2, x2, k1, k2, k3, k4, (q2.b hB).trans k5, k6⟩, harr⟩
theorem SOpsC.over {x : Operand} {S : ByteArray} {r pos : Nat} (ho : ops[i]? = some o) (hop : o.op = .next x true) (hg : o.guard = none) (hd : dstOk n o = true) (hc : cev s x = .ptr r 0 0) (hH : H[r]? = some (.raw (fun o => o = .stringIter S pos))) (hp : ¬ pos < S.size)
    (h : SOpsC P n D ops rest Q (s.put? o.dst (.tuple [.bool false])) H) : SOpsC P n D ops (i :: rest) Q s H := fun ro sn ρ w a hR hs hdf hB => by
  have h1 := cev_ok hR.gl hs x
  rw [hc] at h1
  generalize hcv : a.eval x = cv at h1
  cases h1 with
  | ptr _ _ _ _ p hpl =>
  obtain ⟨h2, obj, h3, h4⟩ := hR.own r _ p hH trivial hpl
  have h4 : obj = .stringIter S pos := h4
  subst h4
  refine OpsAt.value (v := .tuple #[.bool false]) (w' := w) ho (by simp [Region.wanted, hg]) ?_ ?_
  · rw [Oper.semAt_eq _ _ _ (fun c hc => by rw [hop] at hc; cases hc)]
    have hgo : (getObj p.b).run P w = .ok (.stringIter S pos) w := by simp [getObj, Sem.run, h3]
    simp only [execOp, hop, hcv, Nat.zero_mul, Nat.add_zero]
    simp [Instr.next, Sem.run_bind, hgo, hp]
  · exact h ro sn ρ w (a.put o.dst (.tuple #[.bool false])) hR (hs.put? hd (by
      refine .tuple _ _ _ rfl fun k x y hx hy => ?_
      match k with
      | 0 => simp at hx hy; subst hx hy; exact .bool _ _
      | k + 1 => simp at hx)) (by rw [put_defers]; exact hdf) hB
theorem SOpsC.done (h : Q .normal s H) : SOpsC P n D ops [] Q s H := fun ro sn ρ w a hR hs hdf hB => OpsAt.of ⟨sn, ρ, H, s, .normal, trivial, hR, hs, hdf, .refl hB, h⟩
end
end Go.AM
set_option linter.unusedVariables false
set_option linter.unusedSimpArgs false
namespace Go.AM
section
variable {P : Program} {n : Nat} {D : Fx} {ops : Array Oper} {Q : XQ} {s : Ch} {H : Heap} {rest : List Nat} {i : Nat} {o : Oper}
theorem SOps.step (ho : ops[i]? = some o) (hg : o.guard = none) (hdk : dstOk n o = true) (h : (aop P s H o.op).k P H (fun v H' => SOps P n D ops rest Q (s.put? o.dst v) H') (fun v H' => Q (.pan v) s H')) : SOps P n D ops (i :: rest) Q s H := by
  intro sn ρ w a hR hs hdf hB
  simp only [wpOps, ho]
  rw [if_pos (by simp [Region.wanted, hg])]
  refine .inl ?_
  refine upon_ok hR ?_ ?_ _ (aop_ok hR hs o (AR.enters_of_k h)) h
  · intro sn' ρ' H' w' v cv q1 q2 hv hc
    have := hc sn' ρ' w' (a.put o.dst cv) q1 ((hs.mono q2.snap q2.env).put? hdk hv) (by rw [put_defers]; exact hdf) (Nat.le_trans hB q2.len)
    exact wpOps_mono (fun e a'' w'' ⟨sn2, ρ2, H2, s2, x, g1, g2, g3, g4, g5, g6⟩ => ⟨sn2, ρ2, H2, s2, x, g1, g2, g3, g4, (q2.b hB).trans g5, g6⟩) _ _ _ this
  · intro sn' ρ' H' w' v cv q1 q2 hv hc
    exact ⟨sn', ρ', H', s, .pan v, hv, q1, hs.mono q2.snap q2.env, hdf, q2.b hB, hc⟩
theorem SOps.val {v : AV} (ho : ops[i]? = some o) (hg : o.guard = none) (hdk : dstOk n o = true) (hv : aop P s H o.op = .val v) (h : SOps P n D ops rest Q (s.put? o.dst v) H) : SOps P n D ops (i :: rest) Q s H :=
  SOps.step ho hg hdk (by rw [hv]; exact h)
theorem SOps.pans {f : FuncId} {args : List AV} {v : AV} {H' : Heap} (ho : ops[i]? = some o) (hg : o.guard = none) (hdk : dstOk n o = true) (hv : aop P s H o.op = .call f args) (hE : Enters P f) (hc : ACalls P f args H fun o H2 => o = .pan v ∧ H2 = H') (h : Q (.pan v) s H') : SOps P n D ops (i :: rest) Q s H :=
  SOps.step ho hg hdk (by
    rw [hv]
    refine ⟨hE, hc.mono ?_⟩
    rintro o H2 ⟨rfl, rfl⟩
    exact h)
end
theorem rK_chkI {P : Program} {ops : Array Oper} {p : Prop} {r : AR} {d : Option Tmp} {rest : List Oper} {Q : XQ} {s : Ch} {H : Heap} (hp : p) (h : rK P ops r d rest Q s H) : rK P ops (.chk p r) d rest Q s H := ⟨hp, h⟩
theorem any_stepL {ops : Array Oper} {R : List Nat → Prop} {fuel : Nat} {listed : Array Bool} (L : List Nat) (hL : Region.ready .any ops listed = L) (hne : L ≠ [])
    (h : ∀ i ∈ L, ∀ t, R (i :: Region.linearise.go .any ops fuel t (listed.setIfInBounds i true) [])) : ∀ t, R (Region.linearise.go .any ops (fuel + 1) t listed []) :=
  any_step (fun e => absurd (hL.symm.trans e) hne) (fun i hi => h i (hL ▸ hi))
end Go.AM
set_option linter.unusedVariables false
set_option linter.unusedSimpArgs false
namespace Go.AM
def yXG (P : Program) (ops : Array Oper) (post : List Oper) (f : Operand) (as : Array Operand) (d : Option Tmp) (j : Nat) (want : Bool) (Q : XQ) : XQ := fun x s H => match x with
  | .normal => gval ops s j = .bool want ∧ ∃ r, cev s f = .yfn r ∧ RYield P r (evs s as) H (fun o H' => match o with | .ret v => cops P ops post Q (s.put? d v) H' | .pan v => Q (.pan v) s H')
  | x => Q x s H
theorem SWp.yieldG {P : Program} {n : Nat} {D : Fx} {id : Nat} {l : List Oper} (k : Nat) {j : Nat} {want : Bool} {f : Operand} {as : Array Operand} {ts : Array TypeId} {d : Option Tmp} {ty : TypeId} {pos : String} {af : Array Edge} {Q : XQ} {s : Ch} {H : Heap}
    (hl : l = l.take k ++ ⟨d, .call ⟨.value f, as, ts⟩, ty, pos, af, some (j, want)⟩ :: l.drop (k + 1)) (hok : codeOk n (.region id l.toArray false) = true)
    (h : cops P l.toArray (l.take k) (yXG P l.toArray (l.drop (k + 1)) f as d j want Q) s H) : SWp P n D (.region id l.toArray false) Q s H := by
  intro ro sn ρ w a hR hs hd hB
  simp only [codeOk, Bool.and_eq_true] at hok
  have hkl : k < l.length := by
    have := congrArg List.length hl
    simp only [List.length_append, List.length_take, List.length_cons, List.length_drop] at this
    omega
  have hk : l.toArray[k]? = some ⟨d, .call ⟨.value f, as, ts⟩, ty, pos, af, some (j, want)⟩ := by
    rw [List.getElem?_toArray, hl, List.getElem?_append_right (by simp; omega)]
    simp [Nat.min_eq_left (Nat.le_of_lt hkl)]
  have hr : List.range l.toArray.size = List.range' 0 k ++ (k :: List.range' (k + 1) (l.length - (k + 1))) := by
    have e1 := List.range'_append_1 (s := 0) (m := k) (n := l.length - k)
    rw [Nat.zero_add, show k + (l.length - k) = l.length by omega] at e1
    rw [List.range_eq_range', List.size_toArray, ← List.range'_succ, show l.length - (k + 1) + 1 = l.length - k by omega, e1]
  refine wpIn_region ?_
  rw [hr]
  have h0 := cops_part (D := D) hok.1 k 0 s H (by simp; omega) (by simpa using h) sn ρ w a hR hs hd hB
  refine wpOpsIn_seq ?_ ?_ _ _ _ (wpOps_in hok.2 notOut _ _ _ h0)
  · rintro a' w' ⟨sn', ρ', H', s', x, h1, h2, h3, h4, h5, h6⟩
    have := h1.normal
    subst this
    obtain ⟨hgv, r, hf, hy⟩ := h6
    have hyv := gval_ok h3 hgv
    have hfv := cev_ok h2.gl h3 f
    rw [hf] at hfv
    generalize hcf : a'.eval f = cf at hfv
    cases hfv
    rename_i p hp
    have hargs := evs_ok h2.gl h3 as
    obtain ⟨fn, tm, ac, bc, g1, g2⟩ := hy sn' ρ' w' _ p hp h2 hargs
    simp only [wpOpsIn, hk]
    rw [if_pos (by simp [Region.wanted, hyv])]
    refine ⟨fun _ _ => trivial, ?_⟩
    rw [Oper.semAt_eq _ _ _ (by simp)]
    have hrun : (execOp a'.eval ⟨d, .call ⟨.value f, as, ts⟩, ty, pos, af, some (j, want)⟩).run P w' = (Instr.yield p.b (as.map a'.eval)).run P w' := by
      simp [execOp, resolve, hcf, Deferred.ofValue, invoke]
    rw [hrun, g1]
    refine ⟨FR_room, round_fr (g2.mono ?_)⟩
    rintro e w2 ⟨sn2, ρ2, H2, out, k1, k2, k3, k4⟩
    have hE : ExtB D.B sn ρ H w sn2 ρ2 H2 w2 := h5.trans (k3.b h5.len)
    cases e with
    | returned v =>
      obtain ⟨x, rfl, hx⟩ := k1.ret_inv
      have hdst : dstOk n ⟨d, .call ⟨.value f, as, ts⟩, ty, pos, af, some (j, want)⟩ = true := by
        have := hok.1
        rw [Array.all_eq_true] at this
        obtain ⟨q1, q2⟩ := Array.getElem?_eq_some_iff.1 hk
        exact q2 ▸ this k q1
      have hsz : k + 1 + (l.length - (k + 1)) ≤ l.toArray.size := by simp; omega
      have := cops_part (D := D) (P := P) (Q := Q) hok.1 (l.length - (k + 1)) (k + 1) (s'.put? d x) H2 hsz (by rw [List.take_of_length_le (by simp)]; exact k4) sn2 ρ2 w2 (a'.put d v) k2
        ((h3.mono k3.snap k3.env).put? (o := ⟨d, .call ⟨.value f, as, ts⟩, ty, pos, af, some (j, want)⟩) hdst hx) (by rw [put_defers]; exact h4) hE.len
      have := wpOps_in (ro := ro) hok.2 notOut _ _ _ (wpOps_mono (fun e a'' w'' ⟨sn3, ρ3, H3, s3, x, q1, q2, q3, q4, q5, q6⟩ => ⟨sn3, ρ3, H3, s3, x, q1, q2, q3, q4, hE.trans q5, q6⟩) _ _ _ this)
      exact this
    | panicked ch =>
      obtain ⟨x, cv, rfl, rfl, hx⟩ := k1.pan_inv
      exact ⟨sn2, ρ2, H2, s', .pan x, hx, k2, h3.mono k3.snap k3.env, h4, hE, k4⟩
    | outgrown => cases out <;> exact k1.elim
  · rintro e a' w' he ⟨sn', ρ', H', s', x, h1, h2, h3, h4, h5, h6⟩
    refine ⟨sn', ρ', H', s', x, h1, h2, h3, h4, h5, ?_⟩
    cases x with
    | normal => cases e <;> simp [AXR] at h1; exact absurd rfl he
    | _ => exact h6
theorem yXG_normal {P : Program} {ops : Array Oper} {post : List Oper} {f : Operand} {as : Array Operand} {d : Option Tmp} {j : Nat} {want : Bool} {Q : XQ} {s : Ch} {H : Heap} : yXG P ops post f as d j want Q .normal s H = (gval ops s j = .bool want ∧ ∃ r, cev s f = .yfn r ∧ RYield P r (evs s as) H (fun o H' => match o with | .ret v => cops P ops post Q (s.put? d v) H' | .pan v => Q (.pan v) s H')) := id rfl
attribute [go_sem] yXG_normal
end Go.AM
set_option linter.unusedVariables false
namespace Go.AM
mutual
theorem fz_above {r sz m : Nat} {ys : List (List AV)} (hm : m ≤ r) : ∀ {x : AV}, x.lt m = true → x.fz r sz ys = x
  | .ptr q i j, h => by
    simp only [AV.lt, decide_eq_true_eq] at h
    simp only [AV.fz, if_neg (show ¬ q = r by omega)]
  | .sl q off len cap, h => by
    simp only [AV.lt, decide_eq_true_eq] at h
    simp only [AV.fz, if_neg (show ¬ q = r by omega)]
  | .map r, h => rfl
  | .chan r, h => rfl
  | .yfn r, h => rfl
  | .rsl r i j len, h => rfl
  | .func fn a b, h => by
    simp only [AV.lt, Bool.and_eq_true] at h
    simp only [AV.fz, fzL_above hm h.1, fzL_above hm h.2]
  | .iface t v, h => by
    simp only [AV.lt] at h
    simp only [AV.fz, fz_above hm h]
  | .agg cs, h => by
    simp only [AV.lt] at h
    simp only [AV.fz, fzL_above hm h]
  | .tuple cs, h => by
    simp only [AV.lt] at h
    simp only [AV.fz, fzL_above hm h]
  | .any, _ => rfl
  | .bool _, _ => rfl
  | .int _ _, _ => rfl
  | .str _, _ => rfl
  | .nilptr, _ => rfl
  | .cptr _ _, _ => rfl
  | .view _ _ _, _ => rfl
  | .nilmap, _ => rfl
  | .nilchan, _ => rfl
  | .nilfunc, _ => rfl
  | .nilif, _ => rfl
theorem fzL_above {r sz m : Nat} {ys : List (List AV)} (hm : m ≤ r) : ∀ {xs : List AV}, ltL m xs = true → fzL r sz ys xs = xs
  | [], _ => rfl
  | x :: xs, h => by
    simp only [ltL, Bool.and_eq_true] at h
    simp only [fzL, fz_above hm h.1, fzL_above hm h.2]
end
mutual
theorem fzOk_above {r n m : Nat} (hm : m ≤ r) : ∀ {x : AV}, x.lt m = true → x.fzOk r n
  | .ptr r i j, h => trivial
  | .sl q off len cap, h => by
    simp only [AV.lt, decide_eq_true_eq] at h
    exact fun e => absurd e (by omega)
  | .map r, h => trivial
  | .chan r, h => trivial
  | .yfn r, h => trivial
  | .rsl r i j len, h => trivial
  | .func fn a b, h => by
    simp only [AV.lt, Bool.and_eq_true] at h
    exact ⟨fzOkL_above hm h.1, fzOkL_above hm h.2⟩
  | .iface t v, h => by
    simp only [AV.lt] at h
    exact fzOk_above (x := v) hm h
  | .agg cs, h => by
    simp only [AV.lt] at h
    exact fzOkL_above (xs := cs) hm h
  | .tuple cs, h => by
    simp only [AV.lt] at h
    exact fzOkL_above (xs := cs) hm h
  | .any, _ => trivial
  | .bool _, _ => trivial
  | .int _ _, _ => trivial
  | .str _, _ => trivial
  | .nilptr, _ => trivial
  | .cptr _ _, _ => trivial
  | .view _ _ _, _ => trivial
  | .nilmap, _ => trivial
  | .nilchan, _ => trivial
  | .nilfunc, _ => trivial
  | .nilif, _ => trivial
theorem fzOkL_above {r n m : Nat} (hm : m ≤ r) : ∀ {xs : List AV}, ltL m xs = true → fzOkL r n xs
  | [], _ => trivial
  | x :: xs, h => by
    simp only [ltL, Bool.and_eq_true] at h
    exact ⟨fzOk_above hm h.1, fzOkL_above hm h.2⟩
end
theorem Ch.fz_above {r sz m : Nat} {ys : List (List AV)} (hm : m ≤ r) : ∀ {s : Ch}, s.lt m = true → s.fz r sz ys = s
  | .nil, _ => rfl
  | .put s t v, h => by
    simp only [Ch.lt, Bool.and_eq_true] at h
    simp only [Ch.fz, Ch.fz_above hm h.1, Go.AM.fz_above hm h.2]
theorem Ch.fzOk_above {r n m : Nat} (hm : m ≤ r) : ∀ {s : Ch}, s.lt m = true → s.fzOk r n
  | .nil, _ => trivial
  | .put s t v, h => by
    simp only [Ch.lt, Bool.and_eq_true] at h
    exact ⟨Ch.fzOk_above hm h.1, Go.AM.fzOk_above hm h.2⟩
theorem bfz_above {r sz m : Nat} {ys : List (List AV)} (hm : m ≤ r) : ∀ {b : Blk}, b.lt m → b.fz r sz ys = b
  | .dead, _ => rfl
  | .rows z xs, h => by
    have : xs.map (fun row => row.map (AV.fz r sz ys)) = xs := by
      conv => rhs; rw [← List.map_id xs]
      refine List.map_congr_left fun row hr => ?_
      have := fzL_above (sz := sz) (ys := ys) hm (h row hr)
      rw [fzL_map] at this
      exact this
    simp only [Blk.fz, this]
  | .amap es, h => by
    have : es.map (fun e => (e.1, AV.fz r sz ys e.2)) = es := by
      conv => rhs; rw [← List.map_id es]
      refine List.map_congr_left fun e he => ?_
      have := fz_above (sz := sz) (ys := ys) hm (h e he)
      rw [this]; rfl
    simp only [Blk.fz, this]
  | .raw q, _ => rfl
  | .lrec q n s, h => by
    simp only [Blk.fz, Ch.fz_above hm h]
theorem bfzOk_above {r n m : Nat} (hm : m ≤ r) : ∀ {b : Blk}, b.lt m → b.fzOk r n
  | .dead, _ => trivial
  | .rows z xs, h => fun row hr => fzOkL_above hm (h row hr)
  | .amap es, h => fun e he => fzOk_above hm (h e he)
  | .raw q, _ => trivial
  | .lrec q n s, h => Ch.fzOk_above hm h
end Go.AM
