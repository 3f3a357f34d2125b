/- cpu: what an instruction depends on, plain. No condition. -/
import Derived.Test.YtojfnagfafoiaaaDoorSJ
import Derived.Test.YtojfnagfafoiaaaDoorKE
set_option maxRecDepth 100000
set_option linter.unusedVariables false
set_option linter.unusedSimpArgs false
namespace Go.Proofs.YtojfnagfafoiaaaDoor
open Go.AM
theorem rd_in {x : Ins} (hx : x.ok) {l : List Int} (h : rdR x = setL l 8) {n : Int} (hn : n ∈ l) (h0 : 0 ≤ n) (h7 : n ≤ 7) : n ∈ rdR x := by
  rw [h, mem_setL]; exact ⟨hn, h0, by omega⟩
structure Dep (x : Ins) (e e' : Eff) : Prop where
  trap : e'.trap = e.trap
  pos : e'.pos = e.pos
  data : e'.data = e.data
  pc : e'.rg.pc = e.rg.pc
  reg : e.trap.kind = 0 → ∀ i ∈ wrL x, e'.rg.get i = e.rg.get i
theorem foot_dep {x : Ins} (hx : x.ok) {r r' : Rg} (h : ∀ i ∈ rdR x, r'.get i = r.get i) : foot x r' = foot x r := by
  have hr : rdR x = _ := if_pos hx
  have ho := ops35 hx.op
  have hb := fun (l : List Int) (e : rdR x = setL l 8) (n : Int) (hn : n ∈ l) (h0 : 0 ≤ n) (h7 : n ≤ 7) => h n (rd_in hx e hn h0 h7)
  have g7 : ∀ q : Rg, q.get 7 = q.r7 := fun q => rfl
  have b0 := hx.b0
  have b7 := hx.b7
  obtain ⟨op, a, b, imm⟩ := x
  simp only at ho b0 b7
  rcases ho with rfl | rfl | rfl | rfl | rfl | rfl | rfl | rfl | rfl | rfl | rfl | rfl | rfl | rfl | rfl | rfl | rfl | rfl | rfl | rfl | rfl | rfl | rfl | rfl | rfl | rfl | rfl | rfl | rfl | rfl | rfl | rfl | rfl | rfl | rfl
  all_goals first
    | rfl
    | (simp at hr
       have m7 := hb _ hr 7
       simp at m7
       rw [g7, g7] at m7
       simp [foot, m7]; done)
    | (simp at hr
       have mb := hb _ hr b
       simp [b0, b7] at mb
       simp [foot, mb]; done)
theorem flt_same {s t : Sp} (hp : t.perm = s.perm) (hl : t.byt.length = s.byt.length) (pos perm : Int) : ∀ (m i : Nat), t.flt pos perm m i = s.flt pos perm m i
  | 0, _ => rfl
  | m + 1, i => by
    have e : ∀ x, t.bad1 perm x = s.bad1 perm x := fun x => by unfold Sp.bad1 Sp.has Sp.pm; rw [hp, hl]
    rw [Sp.flt, Sp.flt, e, flt_same hp hl pos perm m (i + 1)]
theorem ffault_same {s t : Sp} (hp : t.perm = s.perm) (hl : t.byt.length = s.byt.length) : ∀ (l : List Acc), ffault t l = ffault s l
  | [] => rfl
  | a :: l => by rw [ffault, ffault, flt_same hp hl, ffault_same hp hl l]
theorem get_setv {r : Rg} {a v i : Int} (h0 : 0 ≤ i) (h7 : i < 8) : (r.set a v).get i = if a = i then v else r.get i := by
  have : i = 0 ∨ i = 1 ∨ i = 2 ∨ i = 3 ∨ i = 4 ∨ i = 5 ∨ i = 6 ∨ i = 7 := by omega
  rcases this with rfl | rfl | rfl | rfl | rfl | rfl | rfl | rfl <;> simp [Rg.get, Rg.set, Rg.list]
theorem setA_eq {r r' : Rg} {a v : Int} : ∀ i ∈ setL [a] 8, (r'.set a v).get i = (r.set a v).get i := fun i hi => by
  rw [mem_setL] at hi
  obtain ⟨h1, h2, h3⟩ := hi
  simp at h1
  subst h1
  rw [get_setv h2 h3, get_setv h2 h3, if_pos rfl, if_pos rfl]
theorem set7_eq {r r' : Rg} (h : r'.r7 = r.r7) : ∀ i ∈ setL [7] 8, r'.get i = r.get i := fun i hi => by
  rw [mem_setL] at hi
  obtain ⟨h1, h2, h3⟩ := hi
  simp at h1
  subst h1
  exact h
theorem setA7_eq {r r' : Rg} {a v : Int} (h : r'.r7 = r.r7) : ∀ i ∈ setL [a, 7] 8, (r'.set a v).get i = (r.set a v).get i := fun i hi => by
  rw [mem_setL] at hi
  obtain ⟨h1, h2, h3⟩ := hi
  rw [get_setv h2 h3, get_setv h2 h3]
  split
  · rfl
  · simp at h1
    have : i = 7 := by omega
    subst this
    exact h
theorem exec_dep {x : Ins} (hx : x.ok) {s t : Sp} {r r' : Rg} (hr : r.wf) (hp : t.perm = s.perm) (hl : t.byt.length = s.byt.length) (hpc : r'.pc = r.pc) (hrd : ∀ i ∈ rdR x, r'.get i = r.get i)
    (hsub : (ffault s (foot x r)).kind = 0 → ∀ a ∈ foot x r, a.write = false → t.sub a.pos a.size.toNat = s.sub a.pos a.size.toNat) : Dep x (exec x s r) (exec x t r') := by
  have hff : ffault t (foot x r') = ffault s (foot x r) := by rw [foot_dep hx hrd, ffault_same hp hl]
  by_cases hf : (ffault s (foot x r)).kind = 0
  · have hf' : (ffault t (foot x r')).kind = 0 := by rw [hff]; exact hf
    have hsub := hsub hf
    have ho := ops35 hx.op
    have him := swap_imm hx
    have hrr : rdR x = _ := if_pos hx
    have hw : wrL x = _ := if_pos hx
    have hb := fun (l : List Int) (e : rdR x = setL l 8) (n : Int) (hn : n ∈ l) (h0 : 0 ≤ n) (h7 : n ≤ 7) => hrd n (rd_in hx e hn h0 h7)
    have a0 := hx.a0
    have a7 := hx.a7
    have b0 := hx.b0
    have b7 := hx.b7
    have s17 : x.op = 17 → t.sub (iw .i64 (r.get x.b + x.imm)) 1 = s.sub (iw .i64 (r.get x.b + x.imm)) 1 := fun h => hsub ⟨iw .i64 (r.get x.b + x.imm), 1, false⟩ (by simp [foot, h]) rfl
    have s18 : x.op = 18 → t.sub (iw .i64 (r.get x.b + x.imm)) 8 = s.sub (iw .i64 (r.get x.b + x.imm)) 8 := fun h => hsub ⟨iw .i64 (r.get x.b + x.imm), 8, false⟩ (by simp [foot, h]) rfl
    have s7 : x.op = 29 ∨ x.op = 31 → t.sub r.r7 8 = s.sub r.r7 8 := fun h => hsub ⟨r.r7, 8, false⟩ (by rcases h with h | h <;> simp [foot, h]) rfl
    have s34 : x.op = 34 → t.sub (r.get x.b) 8 = s.sub (r.get x.b) 8 := fun h => by
      have hbb : I64 (r.get x.b) := hr.get _
      have e : iw .i64 (r.get x.b + x.imm) = r.get x.b := by rw [him h, Int.add_zero]; unfold I64 at hbb; exact iw64 (by omega) (by omega)
      have := hsub ⟨iw .i64 (r.get x.b + x.imm), 8, false⟩ (by simp [foot, h]) rfl
      rw [e] at this
      exact this
    have g7 : ∀ q : Rg, q.get 7 = q.r7 := fun q => rfl
    have ga : (x.op = 16 ∨ x.op = 26 ∨ x.op = 28 ∨ x.op = 30 ∨ (19 ≤ x.op ∧ x.op ≤ 24) ∨ x.op = 34 ∨ (5 ≤ x.op ∧ x.op ≤ 15)) → r'.get x.a = r.get x.a := fun h => by
      clear s17 s18 s7 s34 hsub hff hf hf' him hw
      obtain ⟨op, a, b, imm⟩ := x
      simp only at ho h a0 a7
      rcases ho with rfl | rfl | rfl | rfl | rfl | rfl | rfl | rfl | rfl | rfl | rfl | rfl | rfl | rfl | rfl | rfl | rfl | rfl | rfl | rfl | rfl | rfl | rfl | rfl | rfl | rfl | rfl | rfl | rfl | rfl | rfl | rfl | rfl | rfl | rfl
      all_goals first
        | (simp at h; done)
        | (simp at hrr
           exact hb _ hrr a (by simp) a0 a7)
    have gb : (x.op = 2 ∨ x.op = 17 ∨ x.op = 18 ∨ (19 ≤ x.op ∧ x.op ≤ 24) ∨ x.op = 34 ∨ (5 ≤ x.op ∧ x.op ≤ 15)) → r'.get x.b = r.get x.b := fun h => by
      clear s17 s18 s7 s34 hsub hff hf hf' him hw ga
      obtain ⟨op, a, b, imm⟩ := x
      simp only at ho h b0 b7
      rcases ho with rfl | rfl | rfl | rfl | rfl | rfl | rfl | rfl | rfl | rfl | rfl | rfl | rfl | rfl | rfl | rfl | rfl | rfl | rfl | rfl | rfl | rfl | rfl | rfl | rfl | rfl | rfl | rfl | rfl | rfl | rfl | rfl | rfl | rfl | rfl
      all_goals first
        | (simp at h; done)
        | (simp at hrr
           exact hb _ hrr b (by simp) b0 b7)
    have gs : (27 ≤ x.op ∧ x.op ≤ 31) → r'.r7 = r.r7 := fun h => by
      clear s17 s18 s7 s34 hsub hff hf hf' him hw ga gb
      obtain ⟨op, a, b, imm⟩ := x
      simp only at ho h
      rcases ho with rfl | rfl | rfl | rfl | rfl | rfl | rfl | rfl | rfl | rfl | rfl | rfl | rfl | rfl | rfl | rfl | rfl | rfl | rfl | rfl | rfl | rfl | rfl | rfl | rfl | rfl | rfl | rfl | rfl | rfl | rfl | rfl | rfl | rfl | rfl
      all_goals first
        | (simp at h; done)
        | (simp at hrr
           exact hb _ hrr 7 (by simp) (by decide) (by decide))
    have htk : (21 ≤ x.op ∧ x.op ≤ 25) → taken x r' = taken x r := fun h => by
      rcases Decidable.em (x.op = 25) with h5 | h5
      · simp [taken, h5]
      · unfold taken; rw [ga (by omega), gb (by omega)]
    clear hsub hb hrr hrd
    unfold exec
    rw [eff_ok hf, eff_ok hf']
    obtain ⟨op, a, b, imm⟩ := x
    simp only at ho s17 s18 s7 s34 ga gb gs htk
    cases hal : alu op (r.get a) (r.get b)
    all_goals cases hta : taken ⟨op, a, b, imm⟩ r
    all_goals rcases ho with rfl | rfl | rfl | rfl | rfl | rfl | rfl | rfl | rfl | rfl | rfl | rfl | rfl | rfl | rfl | rfl | rfl | rfl | rfl | rfl | rfl | rfl | rfl | rfl | rfl | rfl | rfl | rfl | rfl | rfl | rfl | rfl | rfl | rfl | rfl
    all_goals simp at s17 s18 s7 s34 ga gb gs htk
    all_goals simp [isAlu] at hw
    all_goals simp [isAlu, tabR, Res.eff, Pr.setA, Pr.toPc, Pr.p1, Pr.start, Pr.set7, hal, hta, s17, s18, s7, s34, ga, gb, gs, htk, hpc]
    all_goals refine ⟨rfl, rfl, rfl, ?_, ?_⟩
    all_goals first
      | rfl
      | exact hpc
      | (rw [hw]; intro _ i hi; cases hi; done)
      | (rw [hw]; exact fun _ => setA_eq)
      | (rw [hw]; exact fun _ => set7_eq rfl)
      | (rw [hw]; exact fun _ => setA7_eq rfl)
      | (intro h; cases h; done)
      | skip
  · have hf' : ¬ (ffault t (foot x r')).kind = 0 := by rw [hff]; exact hf
    rw [exec_f hf, exec_f hf', hff]
    exact ⟨rfl, rfl, rfl, hpc, fun h => by cases h⟩
end Go.Proofs.YtojfnagfafoiaaaDoor

set_option maxRecDepth 100000
set_option linter.unusedVariables false
set_option linter.unusedSimpArgs false
namespace Go.Proofs.YtojfnagfafoiaaaDoor
open Go.AM
theorem bXor8 (b c : UInt8) : bXor .u8 (b.toNat : Int) (c.toNat : Int) = ((b ^^^ c).toNat : Int) := by
  have h1 := b.toNat_lt
  have h2 := c.toNat_lt
  have h3 := (b ^^^ c).toNat_lt
  have e : ∀ d : UInt8, (BitVec.ofInt 8 (d.toNat : Int)) = d.toBitVec := fun d => by
    apply BitVec.eq_of_toNat_eq
    rw [BitVec.toNat_ofInt]
    have := d.toNat_lt
    simp
    omega
  have e2 : (b.toBitVec ^^^ c.toBitVec).toNat = (b ^^^ c).toNat := rfl
  show IntKind.wrap .u8 (((BitVec.ofInt 8 (b.toNat : Int)) ^^^ (BitVec.ofInt 8 (c.toNat : Int))).toNat : Int) = _
  rw [e, e, e2]
  generalize (b ^^^ c).toNat = k at *
  simp [IntKind.wrap, IntKind.signed, IntKind.bits]
  omega
/-- A byte's place is one that the footprint reads. -/
def Acc.rd (a : Acc) (i : Nat) : Bool := !a.write && (decide (a.pos ≤ i) && decide (iw .i64 (i - a.pos) < a.size))
def rdAt (l : List Acc) (i : Nat) : Bool := l.any fun a => a.rd i
def mixL (l : List Acc) (c : UInt8) (n : Nat) (b : List UInt8) : List UInt8 := b.mapIdx fun i d => if i < n ∧ rdAt l i = false then d ^^^ c else d
theorem mixl_len (l : List Acc) (c : UInt8) (n : Nat) (b : List UInt8) : (mixL l c n b).length = b.length := by simp [mixL]
theorem mixl_get (l : List Acc) (c : UInt8) (n : Nat) (b : List UInt8) (i : Nat) : (mixL l c n b)[i]? = (b[i]?).map fun d => if i < n ∧ rdAt l i = false then d ^^^ c else d := by
  simp [mixL, List.getElem?_mapIdx]
theorem mixl_zero (l : List Acc) (c : UInt8) (b : List UInt8) : mixL l c 0 b = b := by
  apply List.ext_getElem?
  intro i
  rw [mixl_get]
  simp
theorem mixl_same {l : List Acc} {c : UInt8} {n : Nat} {b : List UInt8} (h : rdAt l n = true) : mixL l c (n + 1) b = mixL l c n b := by
  apply List.ext_getElem?
  intro i
  rw [mixl_get, mixl_get]
  congr 1
  funext d
  by_cases e : i = n
  · subst e; simp [h]
  · have : i < n + 1 ↔ i < n := by omega
    simp [this]
theorem mixl_set {l : List Acc} {c : UInt8} {n : Nat} {b : List UInt8} {d : UInt8} (hd : b[n]? = some d) (h : rdAt l n = false) : (mixL l c n b).set n (d ^^^ c) = mixL l c (n + 1) b := by
  apply List.ext_getElem?
  intro i
  rw [List.getElem?_set]
  have hn := (List.getElem?_eq_some_iff.1 hd).1
  by_cases e : n = i
  · subst e
    rw [if_pos rfl, mixl_len, if_pos hn, mixl_get, hd]
    simp [h]
  · rw [if_neg e, mixl_get, mixl_get]
    congr 1
    funext d
    have : i < n + 1 ↔ i < n := by omega
    simp [this]
def Sp.mix (s : Sp) (l : List Acc) (c : UInt8) : Sp := ⟨s.perm, mixL l c s.byt.length s.byt⟩
theorem mixl_ok {s : Sp} (hs : s.ok) (l : List Acc) (c : UInt8) : (s.mix l c).ok := ⟨hs.p32, by simp [Sp.mix, mixl_len, hs.len], hs.all⟩
theorem mixl_sub {s : Sp} (hs : s.ok) {l : List Acc} (c : UInt8) (hf : (ffault s l).kind = 0) (h8 : ∀ a ∈ l, I64 a.pos ∧ (a.size = 1 ∨ a.size = 8)) : ∀ a ∈ l, a.write = false → (s.mix l c).sub a.pos a.size.toNat = s.sub a.pos a.size.toNat := fun a ha hw => by
  have hpe : a.perm = 1 := by rw [Acc.perm, if_neg (by simp [hw])]
  have hfl := ffault0 hf a ha
  rw [hpe] at hfl
  obtain ⟨hpos, hsz⟩ := h8 a ha
  have hbl := byt_len hs
  have hin := (flt_in hpos hbl a.size.toNat 0 (by omega) (by omega) (.inr rfl) hfl).resolve_left (by omega)
  unfold Sp.sub Sp.mix
  apply List.ext_getElem?
  intro i
  simp only [List.getElem?_take, List.getElem?_drop]
  split
  · rename_i hi
    rw [mixl_get]
    have hr : rdAt l (a.pos.toNat + i) = true := by
      unfold rdAt
      rw [List.any_eq_true]
      refine ⟨a, ha, ?_⟩
      have e : iw .i64 (((a.pos.toNat + i : Nat) : Int) - a.pos) = i := by rw [iw64] <;> omega
      simp only [Acc.rd, hw, e, Bool.not_false, Bool.true_and, Bool.and_eq_true, decide_eq_true_eq]
      omega
    simp [hr]
  · rfl
/-- The registers that are told take over the values of others. -/
def takeR (t : Rg) (l : List Int) (r : Rg) : Rg := l.foldl (fun r n => r.set n (t.get n)) r
theorem takeR_at {t r : Rg} {l : List Int} {i : Nat} {n : Int} (h : l[i]? = some n) : takeR t (l.take (i + 1)) r = (takeR t (l.take i) r).set n (t.get n) := by
  rw [takeR, List.take_add_one, h]
  simp [List.foldl_append, takeR]
theorem takeR_pc (t : Rg) : ∀ (l : List Int) (r : Rg), (takeR t l r).pc = r.pc
  | [], r => rfl
  | n :: l, r => takeR_pc t l (r.set n (t.get n))
theorem set_wf {r : Rg} (h : r.wf) {a v : Int} (hv : I64 v) : (r.set a v).wf := by
  refine ⟨fun x hx => ?_, h.pc⟩
  have h1 := h.reg
  simp only [Rg.set, Rg.list, List.mem_cons, List.not_mem_nil, or_false] at hx h1
  rcases hx with rfl | rfl | rfl | rfl | rfl | rfl | rfl | rfl <;> (split <;> first | exact hv | exact h1 _ (by simp))
theorem takeR_wf {t : Rg} (ht : t.wf) : ∀ (l : List Int) {r : Rg}, r.wf → (takeR t l r).wf
  | [], r, h => h
  | n :: l, r, h => takeR_wf ht l (set_wf h (ht.get n))
theorem takeR_keep {t : Rg} {i : Int} (h0 : 0 ≤ i) (h8 : i < 8) : ∀ (l : List Int) (r : Rg), r.get i = t.get i → (takeR t l r).get i = t.get i
  | [], r, h => h
  | n :: l, r, h => takeR_keep h0 h8 l _ (by
    rw [get_setv h0 h8]
    split
    · rename_i e; rw [e]
    · exact h)
theorem takeR_get {t : Rg} {i : Int} (h0 : 0 ≤ i) (h8 : i < 8) : ∀ (l : List Int) (r : Rg), i ∈ l → (takeR t l r).get i = t.get i
  | [], r, h => by simp at h
  | n :: l, r, h => by
    rcases List.mem_cons.1 h with rfl | h
    · exact takeR_keep h0 h8 l _ (by rw [get_setv h0 h8, if_pos rfl])
    · exact takeR_get h0 h8 l _ h
theorem rd2 {n : Int} (h0 : 0 ≤ n) (h7 : n < 8) {c0 c1 : AV} {r : Rg} : [c0, c1, iv r.r0, iv r.r1, iv r.r2, iv r.r3, iv r.r4, iv r.r5, iv r.r6, iv r.r7, iv r.pc][2 + n.toNat]? = some (iv (r.get n)) := by
  rcases cases8 h0 (by omega) with rfl | rfl | rfl | rfl | rfl | rfl | rfl | rfl <;> rfl
theorem rd19 {n : Int} (h0 : 0 ≤ n) (h7 : n < 8) {t0 t1 t2 t3 t4 t5 t6 t7 t8 t9 t10 : AV} {a0 a1 a2 a3 a4 a5 a6 a7 : Int} :
    [iv a0, iv a1, iv a2, iv a3, iv a4, iv a5, iv a6, iv a7, t0, t1, t2, t3, t4, t5, t6, t7, t8, t9, t10][n.toNat]? = some (iv (sel8 n a0 a1 a2 a3 a4 a5 a6 a7)) := by
  rcases cases8 h0 (by omega) with rfl | rfl | rfl | rfl | rfl | rfl | rfl | rfl <;> rfl
theorem mem_at {l : List Int} {i : Nat} {n : Int} (h : l[i]? = some n) : n ∈ l := List.mem_of_getElem? h
theorem rdR_8 {x : Ins} {n : Int} (h : n ∈ rdR x) : 0 ≤ n ∧ n < 8 := by
  unfold rdR at h
  repeat' split at h
  all_goals first
    | (rw [mem_setL] at h; exact ⟨h.2.1, by have := h.2.2; omega⟩)
    | (simp at h; done)
theorem wrL_8 {x : Ins} {n : Int} (h : n ∈ wrL x) : 0 ≤ n ∧ n < 8 := by
  unfold wrL at h
  repeat' split at h
  all_goals first
    | (rw [mem_setL] at h; exact ⟨h.2.1, by have := h.2.2; omega⟩)
    | (simp at h; done)
theorem rdR_len (x : Ins) : (rdR x).length ≤ 8 := by
  unfold rdR
  repeat' split
  all_goals first | exact setL_len _ _ | simp
theorem foot_pos {x : Ins} {r : Rg} (hr : r.wf) : ∀ a ∈ foot x r, I64 a.pos := by
  have hI := fun n => iw_I64 n
  have h7 : I64 r.r7 := hr.reg _ (by simp [Rg.list])
  unfold foot
  repeat' split
  all_goals simp [hI, h7]
theorem CpuDepends_c (x : Ins) (s : Sp) (r : Rg) (hr : r.wf) (o : Rg) (ho : o.wf) (c : UInt8) :
    ACalls Tryd.prog 11 [x.av, .agg (.view false 1 (s.perm.map r1) :: .view false 1 (s.byt.map rb) :: r.cells), .agg (o.cells ++ rb c)] [] (fun o H => o = .ret (.bool true) ∧ H = []) := by
  refine ACalls.up ?_
  refine ACalls.intro (cs := [14,28]) (n := 229) Tryd.func11 rfl rfl rfl (by kernel_rfl) rfl ?_
  generalize hpost : (fun (o : Out) (H : Heap) => o = Out.ret (.bool true) ∧ H = []) = post
  have fin : ∀ H, Up 0 post (.ret (.bool true)) H := fun H => finv rfl (by rw [← hpost]; exact ⟨rfl, rfl⟩) H
  simp only [go_sem, Nat.reduceAdd, Nat.reduceSub, Nat.reduceMul, Nat.reduceEqDiff, Nat.reduceLeDiff, Nat.reduceLT, ↓reduceIte, Int.reduceToNat, reduceCtorEq, Int.cast_ofNat_Int, Int.reduceLT, Int.reduceLE, Int.reduceGT, Int.reduceGE, Int.reduceEq, Int.reduceNe, Int.reduceNeg, Int.reduceAdd, Int.reduceSub, Int.le_refl, Rg.cells, Ins.av, Ins.cells]
  refine rK_use (enters_of Tryd.func16 rfl (by decide)) (ACalls.pure_use (sane_c) rfl rfl) ?_
  simp only [go_sem, Nat.reduceAdd, Nat.reduceSub, Nat.reduceMul, Nat.reduceEqDiff, Nat.reduceLeDiff, Nat.reduceLT, ↓reduceIte, Int.reduceToNat, reduceCtorEq, Int.cast_ofNat_Int, Int.reduceLT, Int.reduceLE, Int.reduceGT, Int.reduceGE, Int.reduceEq, Int.reduceNe, Int.reduceNeg, Int.reduceAdd, Int.reduceSub, Int.le_refl]
  refine rK_use (enters_of Tryd.func17 rfl (by decide)) (ACalls.pure_use (Exec_a x s r hr) rfl (by simp [AV.lt, ltL, Eff.av_lt])) ?_
  rcases Decidable.em (ef x s = 0) with hf | hf
  rotate_left
  · simp only [go_sem, Nat.reduceAdd, Nat.reduceSub, Nat.reduceMul, Nat.reduceEqDiff, Nat.reduceLeDiff, Nat.reduceLT, ↓reduceIte, Int.reduceToNat, reduceCtorEq, Int.cast_ofNat_Int, Int.reduceLT, Int.reduceLE, Int.reduceGT, Int.reduceGE, Int.reduceEq, Int.reduceNe, Int.reduceNeg, Int.reduceAdd, Int.reduceSub, Int.le_refl, Eff.av, Eff.cells, Eff.cellsD, hf]
    exact fin _
  rw [exE0 hf]
  have hx := (ef0 hf).2
  have hs := (ef0 hf).1
  have h6 := hs.p32
  have hbl := byt_len hs
  have hlR := rdR_len x
  simp only [go_sem, Nat.reduceAdd, Nat.reduceSub, Nat.reduceMul, Nat.reduceEqDiff, Nat.reduceLeDiff, Nat.reduceLT, ↓reduceIte, Int.reduceToNat, reduceCtorEq, Int.cast_ofNat_Int, Int.reduceLT, Int.reduceLE, Int.reduceGT, Int.reduceGE, Int.reduceEq, Int.reduceNe, Int.reduceNeg, Int.reduceAdd, Int.reduceSub, Int.le_refl, Eff.av, Eff.cells, Eff.cellsD, hf]
  refine rK_use (enters_of Tryd.func42 rfl (by decide)) (ACalls.pure_use (reads_c x) rfl rfl) ?_
  simp only [go_sem, Nat.reduceAdd, Nat.reduceSub, Nat.reduceMul, Nat.reduceEqDiff, Nat.reduceLeDiff, Nat.reduceLT, ↓reduceIte, Int.reduceToNat, reduceCtorEq, Int.cast_ofNat_Int, Int.reduceLT, Int.reduceLE, Int.reduceGT, Int.reduceGE, Int.reduceEq, Int.reduceNe, Int.reduceNeg, Int.reduceAdd, Int.reduceSub, Int.le_refl]
  generalize hE : exec x s r = e
  generalize hL : rdR x = l at *
  have hl8 : ∀ n ∈ l, 0 ≤ n ∧ n < 8 := fun n h => rdR_8 (by rw [hL]; exact h)
  refine seq_cut (fun _ : Unit => (((((((Ch.nil.put 3 (.ptr 0 0 0)).put 4 (.ptr 1 0 0)).put 5 (.ptr 2 0 0)).put 7 (.bool true)).put 8 (.ptr 3 0 0)).put 10 (.ptr 4 0 0))))
    (fun _ => [.rows 4 [x.cells], .rows 11 [.view false 1 (s.perm.map r1) :: .view false 1 (s.byt.map rb) :: r.cells], .rows 10 [o.cells ++ rb c], .rows 19 [e.cells], .rows 9 [(takeR r l { o with pc := r.pc }).cells]]) (fun _ => True) (by kernel_rfl) ?_ ?_
  · intro K1 hK1
    simp only [go_sem, Nat.reduceAdd, Nat.reduceSub, Nat.reduceMul, Nat.reduceEqDiff, Nat.reduceLeDiff, Nat.reduceLT, ↓reduceIte, Int.reduceToNat, reduceCtorEq, Int.cast_ofNat_Int, Int.reduceLT, Int.reduceLE, Int.reduceGT, Int.reduceGE, Int.reduceEq, Int.reduceNe, Int.reduceNeg, Int.reduceAdd, Int.reduceSub, Int.le_refl]
    refine loop_fam (fun i : Nat => ((((((((Ch.nil.put 3 (.ptr 0 0 0)).put 4 (.ptr 1 0 0)).put 5 (.ptr 2 0 0)).put 7 (.bool true)).put 8 (.ptr 3 0 0)).put 10 (.ptr 4 0 0)).put 11 (.view false 1 (l.map r1))).put 12 (iv i)))
      (fun i => [.rows 4 [x.cells], .rows 11 [.view false 1 (s.perm.map r1) :: .view false 1 (s.byt.map rb) :: r.cells], .rows 10 [o.cells ++ rb c], .rows 19 [e.cells], .rows 9 [(takeR r (l.take i) { o with pc := r.pc }).cells]])
      (fun i => l.length - i) (fun i => i ≤ l.length) 0 (by kernel_rfl) (Nat.zero_le _) (Wk.slots' rfl (by simp [wkS, Ch.get])) ?_
    rintro i hi K hK
    simp only [go_sem, Nat.reduceAdd, Nat.reduceSub, Nat.reduceMul, Nat.reduceEqDiff, Nat.reduceLeDiff, Nat.reduceLT, ↓reduceIte, Int.reduceToNat, reduceCtorEq, Int.cast_ofNat_Int, Int.reduceLT, Int.reduceLE, Int.reduceGT, Int.reduceGE, Int.reduceEq, Int.reduceNe, Int.reduceNeg, Int.reduceAdd, Int.reduceSub, Int.le_refl, List.length_map]
    refine condD_dec (fun hc => ?_) (fun hc => ?_)
    · obtain ⟨n, hn⟩ := at_lt (l := l) (i := i) (by omega)
      obtain ⟨n0, n8⟩ := hl8 n (mem_at hn)
      have e1 : iw .i64 ((i : Int) + 1) = ((i + 1 : Nat) : Int) := by rw [iw64] <;> omega
      have g1 : (0 : Int) ≤ i ∧ (i : Int) < l.length := ⟨by omega, by omega⟩
      have g2 : ¬ n < 0 := by omega
      have g3 : ¬ (7 : Int) < n := by omega
      have g4 : (0 : Int) ≤ n ∧ n < 8 := ⟨n0, n8⟩
      have g5 : n.toNat + 1 ≤ 9 := by omega
      have hq := takeR_at (t := r) (r := { o with pc := r.pc }) hn
      generalize takeR r (l.take i) { o with pc := r.pc } = q at *
      simp only [go_sem, Nat.reduceAdd, Nat.reduceSub, Nat.reduceMul, Nat.reduceEqDiff, Nat.reduceLeDiff, Nat.reduceLT, ↓reduceIte, Int.reduceToNat, reduceCtorEq, Int.cast_ofNat_Int, Int.reduceLT, Int.reduceLE, Int.reduceGT, Int.reduceGE, Int.reduceEq, Int.reduceNe, Int.reduceNeg, Int.reduceAdd, Int.reduceSub, Int.le_refl, hn, List.getElem?_map, List.length_map, g1, g2, g3]
      refine draw [.qu 0 0, .qu 0 0, .qu 0 0, .qu 0 0, .qu 0 0, .qu 0 0, .qu 0 0, .qu 0 0, .qu 0 0, .qu 0 0, .qu 0 0, .qu 0 0, .qu 0 0, .qu 0 0, .mn 0] (by kernel_rfl) (by kernel_rfl) ?_
      simp only [go_sem, Nat.reduceAdd, Nat.reduceSub, Nat.reduceMul, Nat.reduceEqDiff, Nat.reduceLeDiff, Nat.reduceLT, ↓reduceIte, Int.reduceToNat, reduceCtorEq, Int.cast_ofNat_Int, Int.reduceLT, Int.reduceLE, Int.reduceGT, Int.reduceGE, Int.reduceEq, Int.reduceNe, Int.reduceNeg, Int.reduceAdd, Int.reduceSub, Int.le_refl, hn, List.getElem?_map, List.length_map, g1, g4, g5, Rg.cells, rd2 n0 n8, wr0 n0 n8, e1]
      refine hK (i + 1) _ _ (by omega) (by omega) (Wk.slots' ?_ (by simp [wkS, Ch.get]))
      rw [hq]
      rfl
    · simp only [go_sem, Nat.reduceAdd, Nat.reduceSub, Nat.reduceMul, Nat.reduceEqDiff, Nat.reduceLeDiff, Nat.reduceLT, ↓reduceIte, Int.reduceToNat, reduceCtorEq, Int.cast_ofNat_Int, Int.reduceLT, Int.reduceLE, Int.reduceGT, Int.reduceGE, Int.reduceEq, Int.reduceNe, Int.reduceNeg, Int.reduceAdd, Int.reduceSub, Int.le_refl]
      have : i = l.length := by omega
      subst this
      exact hK1 () _ _ trivial (Wk.slots' (by rw [List.take_length]) (by simp [wkS, Ch.get]))
  · intro _ _
    simp only [go_sem, Nat.reduceAdd, Nat.reduceSub, Nat.reduceMul, Nat.reduceEqDiff, Nat.reduceLeDiff, Nat.reduceLT, ↓reduceIte, Int.reduceToNat, reduceCtorEq, Int.cast_ofNat_Int, Int.reduceLT, Int.reduceLE, Int.reduceGT, Int.reduceGE, Int.reduceEq, Int.reduceNe, Int.reduceNeg, Int.reduceAdd, Int.reduceSub, Int.le_refl]
    have hr2 := takeR_wf hr l (r := { o with pc := r.pc }) ⟨ho.reg, hr.pc⟩
    have hrg : ∀ i ∈ l, (takeR r l { o with pc := r.pc }).get i = r.get i := fun i hi => takeR_get (hl8 i hi).1 (hl8 i hi).2 l _ hi
    have hpc : (takeR r l { o with pc := r.pc }).pc = r.pc := takeR_pc r l _
    generalize takeR r l { o with pc := r.pc } = q at *
    refine drawG [.rows 1 (s.perm.map r1), .rows 1 (s.byt.map rb)] [.gn 1 0 1, .qu 0 1, .qu 0 1, .rd 0 1, .gm 5 0 1, .gn 1 0 1, .qu 0 1, .qu 0 1, .rd 0 1, .gm 6 0 1, .qu 0 1, .mn 0, .mn 1] (by kernel_rfl) (by kernel_rfl) (by kernel_rfl) ?_
    simp only [go_sem, Nat.reduceAdd, Nat.reduceSub, Nat.reduceMul, Nat.reduceEqDiff, Nat.reduceLeDiff, Nat.reduceLT, ↓reduceIte, Int.reduceToNat, reduceCtorEq, Int.cast_ofNat_Int, Int.reduceLT, Int.reduceLE, Int.reduceGT, Int.reduceGE, Int.reduceEq, Int.reduceNe, Int.reduceNeg, Int.reduceAdd, Int.reduceSub, Int.le_refl]
    refine y_gm (b := .rows 1 (s.perm.map r1)) (len := s.perm.length) ?_ rfl trivial ?_
    · exact ⟨rfl, rfl, .inl (by kernel_rfl), by simp; omega, of_decide_eq_true (by kernel_rfl), by kernel_rfl, rfl, by simp⟩
    simp only [go_sem, Nat.reduceAdd, Nat.reduceSub, Nat.reduceMul, Nat.reduceEqDiff, Nat.reduceLeDiff, Nat.reduceLT, ↓reduceIte, Int.reduceToNat, reduceCtorEq, Int.cast_ofNat_Int, Int.reduceLT, Int.reduceLE, Int.reduceGT, Int.reduceGE, Int.reduceEq, Int.reduceNe, Int.reduceNeg, Int.reduceAdd, Int.reduceSub, Int.le_refl]
    refine y_gm (b := .rows 1 (s.byt.map rb)) (len := s.byt.length) ?_ rfl trivial ?_
    · exact ⟨rfl, rfl, .inl (by kernel_rfl), by simp; omega, of_decide_eq_true (by kernel_rfl), by kernel_rfl, rfl, by simp⟩
    simp only [go_sem, Nat.reduceAdd, Nat.reduceSub, Nat.reduceMul, Nat.reduceEqDiff, Nat.reduceLeDiff, Nat.reduceLT, ↓reduceIte, Int.reduceToNat, reduceCtorEq, Int.cast_ofNat_Int, Int.reduceLT, Int.reduceLE, Int.reduceGT, Int.reduceGE, Int.reduceEq, Int.reduceNe, Int.reduceNeg, Int.reduceAdd, Int.reduceSub, Int.le_refl, Ins.cells, Rg.cells]
    refine rK_use (enters_of Tryd.func33 rfl (by decide)) (ACalls.pure_use (Footprint_c x hx r) rfl (by simp [AV.lt, ltL])) ?_
    have hfp := foot_pos (x := x) hr
    have hfs := foot_size x r
    have hfl := foot_len x r
    have hfd := foot_dep (r' := q) hx (r := r) (by rw [hL]; exact hrg)
    generalize hFt : foot x r = ft at *
    simp only [go_sem, Nat.reduceAdd, Nat.reduceSub, Nat.reduceMul, Nat.reduceEqDiff, Nat.reduceLeDiff, Nat.reduceLT, ↓reduceIte, Int.reduceToNat, reduceCtorEq, Int.cast_ofNat_Int, Int.reduceLT, Int.reduceLE, Int.reduceGT, Int.reduceGE, Int.reduceEq, Int.reduceNe, Int.reduceNeg, Int.reduceAdd, Int.reduceSub, Int.le_refl]
    refine seq_cut (fun _ : Unit => ((((((Ch.nil.put 3 (.ptr 0 0 0)).put 7 (.bool true)).put 8 (.ptr 3 0 0)).put 10 (.ptr 4 0 0)).put 13 (.ptr 7 0 0))))
      (fun _ => [.rows 4 [x.cells], .rows 11 [.view false 1 (s.perm.map r1) :: .view false 1 (s.byt.map rb) :: r.cells], .rows 10 [o.cells ++ rb c], .rows 19 [e.cells], .rows 9 [q.cells], .dead, .dead, .rows 2 [[.view false 1 ((s.mix ft c).perm.map r1), .view false 1 ((s.mix ft c).byt.map rb)]]]) (fun _ => True) (by kernel_rfl) ?_ ?_
    · intro K1 hK1
      simp only [go_sem, Nat.reduceAdd, Nat.reduceSub, Nat.reduceMul, Nat.reduceEqDiff, Nat.reduceLeDiff, Nat.reduceLT, ↓reduceIte, Int.reduceToNat, reduceCtorEq, Int.cast_ofNat_Int, Int.reduceLT, Int.reduceLE, Int.reduceGT, Int.reduceGE, Int.reduceEq, Int.reduceNe, Int.reduceNeg, Int.reduceAdd, Int.reduceSub, Int.le_refl]
      refine loop_fam (fun i : Nat => (((((((((Ch.nil.put 3 (.ptr 0 0 0)).put 4 (.ptr 1 0 0)).put 5 (.ptr 2 0 0)).put 7 (.bool true)).put 8 (.ptr 3 0 0)).put 10 (.ptr 4 0 0)).put 13 (.ptr 7 0 0)).put 14 (.view false 3 (ft.map Acc.row))).put 16 (iv i)))
        (fun i => [.rows 4 [x.cells], .rows 11 [.view false 1 (s.perm.map r1) :: .view false 1 (s.byt.map rb) :: r.cells], .rows 10 [o.cells ++ rb c], .rows 19 [e.cells], .rows 9 [q.cells], .rows 1 (s.perm.map r1), .rows 1 ((mixL ft c i s.byt).map rb), .rows 2 [[.sl 5 0 s.perm.length none, .sl 6 0 s.byt.length none]]])
        (fun i => s.byt.length - i) (fun i => i ≤ s.byt.length) 0 (by kernel_rfl) (Nat.zero_le _) (Wk.slots' (by rw [mixl_zero]; rfl) (by simp [wkS, Ch.get])) ?_
      rintro i hi K hK
      simp only [go_sem, Nat.reduceAdd, Nat.reduceSub, Nat.reduceMul, Nat.reduceEqDiff, Nat.reduceLeDiff, Nat.reduceLT, ↓reduceIte, Int.reduceToNat, reduceCtorEq, Int.cast_ofNat_Int, Int.reduceLT, Int.reduceLE, Int.reduceGT, Int.reduceGE, Int.reduceEq, Int.reduceNe, Int.reduceNeg, Int.reduceAdd, Int.reduceSub, Int.le_refl, List.length_map]
      refine condD_dec (fun hc => ?_) (fun hc => ?_)
      · simp only [go_sem, Nat.reduceAdd, Nat.reduceSub, Nat.reduceMul, Nat.reduceEqDiff, Nat.reduceLeDiff, Nat.reduceLT, ↓reduceIte, Int.reduceToNat, reduceCtorEq, Int.cast_ofNat_Int, Int.reduceLT, Int.reduceLE, Int.reduceGT, Int.reduceGE, Int.reduceEq, Int.reduceNe, Int.reduceNeg, Int.reduceAdd, Int.reduceSub, Int.le_refl]
        refine loop_fam (fun k : Nat => (((((((((((Ch.nil.put 3 (.ptr 0 0 0)).put 4 (.ptr 1 0 0)).put 5 (.ptr 2 0 0)).put 7 (.bool true)).put 8 (.ptr 3 0 0)).put 10 (.ptr 4 0 0)).put 13 (.ptr 7 0 0)).put 14 (.view false 3 (ft.map Acc.row))).put 16 (iv i)).put 17 (.bool (rdAt (ft.take k) i))).put 18 (iv k)))
          (fun _ => [.rows 4 [x.cells], .rows 11 [.view false 1 (s.perm.map r1) :: .view false 1 (s.byt.map rb) :: r.cells], .rows 10 [o.cells ++ rb c], .rows 19 [e.cells], .rows 9 [q.cells], .rows 1 (s.perm.map r1), .rows 1 ((mixL ft c i s.byt).map rb), .rows 2 [[.sl 5 0 s.perm.length none, .sl 6 0 s.byt.length none]]])
          (fun k => ft.length - k) (fun k => k ≤ ft.length) 0 (by kernel_rfl) (Nat.zero_le _) (Wk.slots' rfl (by simp [wkS, Ch.get, rdAt])) ?_
        rintro k hk K2 hK2
        simp only [go_sem, Nat.reduceAdd, Nat.reduceSub, Nat.reduceMul, Nat.reduceEqDiff, Nat.reduceLeDiff, Nat.reduceLT, ↓reduceIte, Int.reduceToNat, reduceCtorEq, Int.cast_ofNat_Int, Int.reduceLT, Int.reduceLE, Int.reduceGT, Int.reduceGE, Int.reduceEq, Int.reduceNe, Int.reduceNeg, Int.reduceAdd, Int.reduceSub, Int.le_refl, List.length_map]
        refine condD_dec (fun hd => ?_) (fun hd => ?_)
        · obtain ⟨a, ha⟩ := at_lt (l := ft) (i := k) (by omega)
          have e1 : iw .i64 ((k : Int) + 1) = ((k + 1 : Nat) : Int) := by rw [iw64] <;> omega
          have g1 : (0 : Int) ≤ k ∧ (k : Int) < ft.length := ⟨by omega, by omega⟩
          have hnx : rdAt (ft.take (k + 1)) i = (rdAt (ft.take k) i || a.rd i) := by rw [rdAt, List.take_add_one, ha]; simp [rdAt]
          generalize hb : rdAt (ft.take k) i = b at *
          obtain ⟨apos, asize, awr⟩ := a
          simp only [Acc.rd] at hnx
          cases b with
          | true =>
            refine draw [.qu 0 0, .qu 0 0, .qu 0 0, .qu 0 0, .qu 0 0, .qu 0 0, .qu 0 0, .qu 0 0, .qu 0 0, .qu 0 0, .qu 0 0, .qu 0 0, .qu 0 0, .qu 0 0, .qu 0 0, .qu 0 0, .qu 0 0, .qu 0 0, .qu 0 0, .qu 0 0, .qu 0 0, .qu 0 0, .qu 0 0, .qu 0 0, .qu 0 0, .qu 0 0, .qu 0 0, .qu 0 0, .qu 0 0, .qu 0 0, .qu 0 0, .qu 0 0, .qu 0 0, .qu 0 0] (by kernel_rfl) (by kernel_rfl) ?_
            simp only [go_sem, Nat.reduceAdd, Nat.reduceSub, Nat.reduceMul, Nat.reduceEqDiff, Nat.reduceLeDiff, Nat.reduceLT, ↓reduceIte, Int.reduceToNat, reduceCtorEq, Int.cast_ofNat_Int, Int.reduceLT, Int.reduceLE, Int.reduceGT, Int.reduceGE, Int.reduceEq, Int.reduceNe, Int.reduceNeg, Int.reduceAdd, Int.reduceSub, Int.le_refl, ha, List.getElem?_map, List.length_map, g1, Acc.row, ge_iff_le, e1]
            refine hK2 (k + 1) _ _ (by omega) (by omega) (Wk.slots' rfl ?_)
            rw [hnx]
            simp [wkS, Ch.get]
          | false =>
            cases awr with
            | true =>
              refine draw [.qu 0 0, .qu 0 0, .qu 0 0, .qu 0 0, .qu 0 0, .qu 0 0, .qu 0 0, .qu 0 0, .qu 0 0, .qu 0 0, .qu 0 0, .qu 0 0, .qu 0 0, .qu 0 0, .qu 0 0, .qu 0 0, .qu 0 0, .qu 0 0, .qu 0 0, .qu 0 0, .qu 0 0, .qu 0 0, .qu 0 0, .qu 0 0, .qu 0 0, .qu 0 0, .qu 0 0, .qu 0 0, .qu 0 0, .qu 0 0, .qu 0 0, .qu 0 0, .qu 0 0, .qu 0 0] (by kernel_rfl) (by kernel_rfl) ?_
              simp only [go_sem, Nat.reduceAdd, Nat.reduceSub, Nat.reduceMul, Nat.reduceEqDiff, Nat.reduceLeDiff, Nat.reduceLT, ↓reduceIte, Int.reduceToNat, reduceCtorEq, Int.cast_ofNat_Int, Int.reduceLT, Int.reduceLE, Int.reduceGT, Int.reduceGE, Int.reduceEq, Int.reduceNe, Int.reduceNeg, Int.reduceAdd, Int.reduceSub, Int.le_refl, ha, List.getElem?_map, List.length_map, g1, Acc.row, ge_iff_le, e1]
              refine hK2 (k + 1) _ _ (by omega) (by omega) (Wk.slots' rfl ?_)
              rw [hnx]
              simp [wkS, Ch.get]
            | false =>
              rcases Decidable.em (apos ≤ (i : Int)) with p1 | p1
              · rcases Decidable.em (iw .i64 (i - apos) < asize) with p2 | p2
                · skip
                  refine draw [.qu 0 0, .qu 0 0, .qu 0 0, .qu 0 0, .qu 0 0, .qu 0 0, .qu 0 0, .qu 0 0, .qu 0 0, .qu 0 0, .qu 0 0, .qu 0 0, .qu 0 0, .qu 0 0, .qu 0 0, .qu 0 0, .qu 0 0, .qu 0 0, .qu 0 0, .qu 0 0, .qu 0 0, .qu 0 0, .qu 0 0, .qu 0 0, .qu 0 0, .qu 0 0, .qu 0 0, .qu 0 0, .qu 0 0, .qu 0 0, .qu 0 0, .qu 0 0, .qu 0 0, .qu 0 0] (by kernel_rfl) (by kernel_rfl) ?_
                  simp only [go_sem, Nat.reduceAdd, Nat.reduceSub, Nat.reduceMul, Nat.reduceEqDiff, Nat.reduceLeDiff, Nat.reduceLT, ↓reduceIte, Int.reduceToNat, reduceCtorEq, Int.cast_ofNat_Int, Int.reduceLT, Int.reduceLE, Int.reduceGT, Int.reduceGE, Int.reduceEq, Int.reduceNe, Int.reduceNeg, Int.reduceAdd, Int.reduceSub, Int.le_refl, ha, List.getElem?_map, List.length_map, g1, Acc.row, ge_iff_le, e1, p1, p2]
                  refine hK2 (k + 1) _ _ (by omega) (by omega) (Wk.slots' rfl ?_)
                  rw [hnx]
                  simp [wkS, Ch.get, p1, p2]
                · skip
                  refine draw [.qu 0 0, .qu 0 0, .qu 0 0, .qu 0 0, .qu 0 0, .qu 0 0, .qu 0 0, .qu 0 0, .qu 0 0, .qu 0 0, .qu 0 0, .qu 0 0, .qu 0 0, .qu 0 0, .qu 0 0, .qu 0 0, .qu 0 0, .qu 0 0, .qu 0 0, .qu 0 0, .qu 0 0, .qu 0 0, .qu 0 0, .qu 0 0, .qu 0 0, .qu 0 0, .qu 0 0, .qu 0 0, .qu 0 0, .qu 0 0, .qu 0 0, .qu 0 0, .qu 0 0, .qu 0 0] (by kernel_rfl) (by kernel_rfl) ?_
                  simp only [go_sem, Nat.reduceAdd, Nat.reduceSub, Nat.reduceMul, Nat.reduceEqDiff, Nat.reduceLeDiff, Nat.reduceLT, ↓reduceIte, Int.reduceToNat, reduceCtorEq, Int.cast_ofNat_Int, Int.reduceLT, Int.reduceLE, Int.reduceGT, Int.reduceGE, Int.reduceEq, Int.reduceNe, Int.reduceNeg, Int.reduceAdd, Int.reduceSub, Int.le_refl, ha, List.getElem?_map, List.length_map, g1, Acc.row, ge_iff_le, e1, p1, p2]
                  refine hK2 (k + 1) _ _ (by omega) (by omega) (Wk.slots' rfl ?_)
                  rw [hnx]
                  simp [wkS, Ch.get, p1, p2]
              · skip
                refine draw [.qu 0 0, .qu 0 0, .qu 0 0, .qu 0 0, .qu 0 0, .qu 0 0, .qu 0 0, .qu 0 0, .qu 0 0, .qu 0 0, .qu 0 0, .qu 0 0, .qu 0 0, .qu 0 0, .qu 0 0, .qu 0 0, .qu 0 0, .qu 0 0, .qu 0 0, .qu 0 0, .qu 0 0, .qu 0 0, .qu 0 0, .qu 0 0, .qu 0 0, .qu 0 0, .qu 0 0, .qu 0 0, .qu 0 0, .qu 0 0, .qu 0 0, .qu 0 0, .qu 0 0, .qu 0 0] (by kernel_rfl) (by kernel_rfl) ?_
                simp only [go_sem, Nat.reduceAdd, Nat.reduceSub, Nat.reduceMul, Nat.reduceEqDiff, Nat.reduceLeDiff, Nat.reduceLT, ↓reduceIte, Int.reduceToNat, reduceCtorEq, Int.cast_ofNat_Int, Int.reduceLT, Int.reduceLE, Int.reduceGT, Int.reduceGE, Int.reduceEq, Int.reduceNe, Int.reduceNeg, Int.reduceAdd, Int.reduceSub, Int.le_refl, ha, List.getElem?_map, List.length_map, g1, Acc.row, ge_iff_le, e1, p1]
                refine hK2 (k + 1) _ _ (by omega) (by omega) (Wk.slots' rfl ?_)
                rw [hnx]
                simp [wkS, Ch.get, p1]
        · simp only [go_sem, Nat.reduceAdd, Nat.reduceSub, Nat.reduceMul, Nat.reduceEqDiff, Nat.reduceLeDiff, Nat.reduceLT, ↓reduceIte, Int.reduceToNat, reduceCtorEq, Int.cast_ofNat_Int, Int.reduceLT, Int.reduceLE, Int.reduceGT, Int.reduceGE, Int.reduceEq, Int.reduceNe, Int.reduceNeg, Int.reduceAdd, Int.reduceSub, Int.le_refl]
          have : k = ft.length := by omega
          subst this
          rw [List.take_length]
          have e1 : iw .i64 ((i : Int) + 1) = ((i + 1 : Nat) : Int) := by rw [iw64] <;> omega
          have g1 : (0 : Int) ≤ i ∧ (i : Int) < s.byt.length := ⟨by omega, by omega⟩
          obtain ⟨d, hd2⟩ := at_lt (l := s.byt) (i := i) (by omega)
          cases hr5 : rdAt ft i with
          | true =>
            simp only [go_sem, Nat.reduceAdd, Nat.reduceSub, Nat.reduceMul, Nat.reduceEqDiff, Nat.reduceLeDiff, Nat.reduceLT, ↓reduceIte, Int.reduceToNat, reduceCtorEq, Int.cast_ofNat_Int, Int.reduceLT, Int.reduceLE, Int.reduceGT, Int.reduceGE, Int.reduceEq, Int.reduceNe, Int.reduceNeg, Int.reduceAdd, Int.reduceSub, Int.le_refl, e1]
            refine hK (i + 1) _ _ (by omega) (by omega) (Wk.slots' ?_ (by simp [wkS, Ch.get]))
            rw [mixl_same hr5]
          | false =>
            simp only [go_sem, Nat.reduceAdd, Nat.reduceSub, Nat.reduceMul, Nat.reduceEqDiff, Nat.reduceLeDiff, Nat.reduceLT, ↓reduceIte, Int.reduceToNat, reduceCtorEq, Int.cast_ofNat_Int, Int.reduceLT, Int.reduceLE, Int.reduceGT, Int.reduceGE, Int.reduceEq, Int.reduceNe, Int.reduceNeg, Int.reduceAdd, Int.reduceSub, Int.le_refl]
            refine draw [.qu 0 0, .qu 0 0, .qu 0 0, .qu 0 0, .qu 0 0, .qu 0 0, .qu 0 0, .qu 0 0, .qu 0 0, .qu 0 0, .qu 0 0, .qu 0 0, .mn 0] (by kernel_rfl) (by kernel_rfl) ?_
            have hm : (mixL ft c i s.byt)[i]? = some d := by rw [mixl_get, hd2]; simp
            have hset : ((mixL ft c i s.byt).map rb).set i [.int .u8 ((d ^^^ c).toNat : Int)] = (mixL ft c (i + 1) s.byt).map rb := by
              rw [← mixl_set hd2 hr5, List.map_set]
            have g2 : i < (mixL ft c i s.byt).length := by rw [mixl_len]; omega
            simp only [go_sem, Nat.reduceAdd, Nat.reduceSub, Nat.reduceMul, Nat.reduceEqDiff, Nat.reduceLeDiff, Nat.reduceLT, ↓reduceIte, Int.reduceToNat, reduceCtorEq, Int.cast_ofNat_Int, Int.reduceLT, Int.reduceLE, Int.reduceGT, Int.reduceGE, Int.reduceEq, Int.reduceNe, Int.reduceNeg, Int.reduceAdd, Int.reduceSub, Int.le_refl, g1, g2, List.length_map, List.getElem?_map, hm, Rg.cells, List.cons_append, List.nil_append, bXor8, hset, e1]
            exact hK (i + 1) _ _ (by omega) (by omega) (Wk.slots' rfl (by simp [wkS, Ch.get]))
      · simp only [go_sem, Nat.reduceAdd, Nat.reduceSub, Nat.reduceMul, Nat.reduceEqDiff, Nat.reduceLeDiff, Nat.reduceLT, ↓reduceIte, Int.reduceToNat, reduceCtorEq, Int.cast_ofNat_Int, Int.reduceLT, Int.reduceLE, Int.reduceGT, Int.reduceGE, Int.reduceEq, Int.reduceNe, Int.reduceNeg, Int.reduceAdd, Int.reduceSub, Int.le_refl]
        have : i = s.byt.length := by omega
        subst this
        refine hK1 () _ _ trivial ?_
        refine (Wk.slots (s' := ((((((Ch.nil.put 3 (.ptr 0 0 0)).put 7 (.bool true)).put 8 (.ptr 3 0 0)).put 10 (.ptr 4 0 0)).put 13 (.ptr 7 0 0)))) (by simp [wkS, Ch.get])).trans ?_
        refine (Wk.fz (r := 5) rfl (r1_pure s.perm) ?_ ?_).trans ?_
        · simp [Blk.fzOk, fzOkL, AV.fzOk, Ins.cells, Rg.cells, Eff.cells, Eff.cellsD]
        · simp [chOk, AV.fzOk]
        refine (Wk.fz (r := 6) (sz := 1) (xs := (mixL ft c s.byt.length s.byt).map rb) ?_ (rb_pure (mixL ft c s.byt.length s.byt)) ?_ ?_).trans ?_
        · simp [Blk.fz, AV.fz]
        · simp [Blk.fzOk, fzOkL, AV.fzOk, Ins.cells, Rg.cells, Eff.cells, Eff.cellsD, Blk.fz, AV.fz, mixl_len]
        · simp [chOk, AV.fzOk, Ch.fz, AV.fz]
        have e4 : ((mixL ft c s.byt.length s.byt).map rb).take s.byt.length = (mixL ft c s.byt.length s.byt).map rb := List.take_of_length_le (by simp [mixl_len])
        refine Wk.slots' ?_ (by simp [wkS, Ch.get, Ch.fz, AV.fz])
        simp [Blk.fz, AV.fz, Ins.cells, Rg.cells, Eff.cells, Eff.cellsD, Sp.mix, e4]
        exact take_r1 _
    · intro _ _
      have hms := mixl_ok hs ft c
      have hf2 : ef x (s.mix ft c) = 0 := by rw [ef, if_pos hms, if_pos hx]
      have hffl : (ffault s ft).kind = 0 → ∀ a ∈ ft, a.write = false → (s.mix ft c).sub a.pos a.size.toNat = s.sub a.pos a.size.toNat := fun h0 => mixl_sub hs c h0 fun a ha => ⟨hfp a ha, hfs a ha⟩
      have hdep := exec_dep (r' := q) hx (s := s) (t := s.mix ft c) hr rfl (by simp [Sp.mix, mixl_len]) hpc (by rw [hL]; exact hrg) (by rw [hFt]; exact hffl)
      rw [hE] at hdep
      have hX := Exec_a x (s.mix ft c) q hr2
      rw [exE0 hf2, hf2] at hX
      generalize exec x (s.mix ft c) q = e' at *
      simp only [go_sem, Nat.reduceAdd, Nat.reduceSub, Nat.reduceMul, Nat.reduceEqDiff, Nat.reduceLeDiff, Nat.reduceLT, ↓reduceIte, Int.reduceToNat, reduceCtorEq, Int.cast_ofNat_Int, Int.reduceLT, Int.reduceLE, Int.reduceGT, Int.reduceGE, Int.reduceEq, Int.reduceNe, Int.reduceNeg, Int.reduceAdd, Int.reduceSub, Int.le_refl, Rg.cells, Ins.cells]
      refine rK_use (enters_of Tryd.func17 rfl (by decide)) (ACalls.pure_use hX rfl (by simp [AV.lt, ltL, Eff.av_lt])) ?_
      obtain ⟨d1, d2, d3, d4, d5⟩ := hdep
      have hw8 : ∀ n ∈ wrL x, 0 ≤ n ∧ n < 8 := fun n h => wrL_8 h
      have hwl := wrL_len x
      obtain ⟨g, po, da, ⟨tk, tn, tf⟩, y⟩ := e
      obtain ⟨g', po', da', tr', y'⟩ := e'
      simp only at d1 d2 d3 d4 d5
      obtain ⟨u0, u1, u2, u3, u4, u5, u6, u7, upc⟩ := g'
      simp only at d4
      subst d1 d2 d3 d4
      simp only [go_sem, Nat.reduceAdd, Nat.reduceSub, Nat.reduceMul, Nat.reduceEqDiff, Nat.reduceLeDiff, Nat.reduceLT, ↓reduceIte, Int.reduceToNat, reduceCtorEq, Int.cast_ofNat_Int, Int.reduceLT, Int.reduceLE, Int.reduceGT, Int.reduceGE, Int.reduceEq, Int.reduceNe, Int.reduceNeg, Int.reduceAdd, Int.reduceSub, Int.le_refl, Eff.av, Eff.cells, Eff.cellsD, ba_eq, decide_true, Bool.not_true]
      refine rK_use (enters_of Tryd.func39 rfl (by decide)) (ACalls.pure_use (writes_c x) rfl rfl) ?_
      generalize wrL x = w at *
      simp only [go_sem, Nat.reduceAdd, Nat.reduceSub, Nat.reduceMul, Nat.reduceEqDiff, Nat.reduceLeDiff, Nat.reduceLT, ↓reduceIte, Int.reduceToNat, reduceCtorEq, Int.cast_ofNat_Int, Int.reduceLT, Int.reduceLE, Int.reduceGT, Int.reduceGE, Int.reduceEq, Int.reduceNe, Int.reduceNeg, Int.reduceAdd, Int.reduceSub, Int.le_refl]
      refine loop_fam (fun k : Nat => (((((Ch.nil.put 7 (.bool true)).put 8 (.ptr 3 0 0)).put 19 (.ptr 8 0 0)).put 21 (.view false 1 (w.map r1))).put 22 (iv k)))
        (fun _ => [.rows 4 [x.cells], .rows 11 [.view false 1 (s.perm.map r1) :: .view false 1 (s.byt.map rb) :: r.cells], .rows 10 [o.cells ++ rb c], .rows 19 [(Eff.mk g po' da' ⟨tk, tn, tf⟩ y).cells], .rows 9 [q.cells], .dead, .dead, .rows 2 [[.view false 1 ((s.mix ft c).perm.map r1), .view false 1 ((s.mix ft c).byt.map rb)]], .rows 19 [(Eff.mk ⟨u0, u1, u2, u3, u4, u5, u6, u7, g.pc⟩ po' da' ⟨tk, tn, tf⟩ y').cells]])
        (fun k => w.length - k) (fun k => k ≤ w.length) 0 (by kernel_rfl) (Nat.zero_le _) (Wk.slots' rfl (by simp [wkS, Ch.get])) ?_
      rintro k hk K hK
      simp only [go_sem, Nat.reduceAdd, Nat.reduceSub, Nat.reduceMul, Nat.reduceEqDiff, Nat.reduceLeDiff, Nat.reduceLT, ↓reduceIte, Int.reduceToNat, reduceCtorEq, Int.cast_ofNat_Int, Int.reduceLT, Int.reduceLE, Int.reduceGT, Int.reduceGE, Int.reduceEq, Int.reduceNe, Int.reduceNeg, Int.reduceAdd, Int.reduceSub, Int.le_refl, List.length_map, Eff.cells, Eff.cellsD]
      rcases Decidable.em ((k : Int) < w.length) with hc | hc
      rotate_left
      · simp only [go_sem, Nat.reduceAdd, Nat.reduceSub, Nat.reduceMul, Nat.reduceEqDiff, Nat.reduceLeDiff, Nat.reduceLT, ↓reduceIte, Int.reduceToNat, reduceCtorEq, Int.cast_ofNat_Int, Int.reduceLT, Int.reduceLE, Int.reduceGT, Int.reduceGE, Int.reduceEq, Int.reduceNe, Int.reduceNeg, Int.reduceAdd, Int.reduceSub, Int.le_refl, hc]
        exact fin _
      rcases Decidable.em (tk = 0) with h0 | h0
      rotate_left
      · simp only [go_sem, Nat.reduceAdd, Nat.reduceSub, Nat.reduceMul, Nat.reduceEqDiff, Nat.reduceLeDiff, Nat.reduceLT, ↓reduceIte, Int.reduceToNat, reduceCtorEq, Int.cast_ofNat_Int, Int.reduceLT, Int.reduceLE, Int.reduceGT, Int.reduceGE, Int.reduceEq, Int.reduceNe, Int.reduceNeg, Int.reduceAdd, Int.reduceSub, Int.le_refl, hc, h0]
        exact fin _
      obtain ⟨n, hn⟩ := at_lt (l := w) (i := k) (by omega)
      obtain ⟨n0, n8⟩ := hw8 n (mem_at hn)
      subst h0
      have hd5 := d5 rfl n (mem_at hn)
      have e1 : iw .i64 ((k : Int) + 1) = ((k + 1 : Nat) : Int) := by rw [iw64] <;> omega
      have g1 : (0 : Int) ≤ k ∧ (k : Int) < w.length := ⟨by omega, by omega⟩
      have g4 : (0 : Int) ≤ n ∧ n < 8 := ⟨n0, n8⟩
      have hd6 : sel8 n u0 u1 u2 u3 u4 u5 u6 u7 = sel8 n g.r0 g.r1 g.r2 g.r3 g.r4 g.r5 g.r6 g.r7 := hd5
      simp only [go_sem, Nat.reduceAdd, Nat.reduceSub, Nat.reduceMul, Nat.reduceEqDiff, Nat.reduceLeDiff, Nat.reduceLT, ↓reduceIte, Int.reduceToNat, reduceCtorEq, Int.cast_ofNat_Int, Int.reduceLT, Int.reduceLE, Int.reduceGT, Int.reduceGE, Int.reduceEq, Int.reduceNe, Int.reduceNeg, Int.reduceAdd, Int.reduceSub, Int.le_refl, hc]
      refine draw [.qu 0 0, .qu 0 0, .qu 0 0, .qu 0 0, .qu 0 0, .qu 0 0, .qu 0 0, .qu 0 0, .qu 0 0, .qu 0 0, .qu 0 0, .qu 0 0, .qu 0 0, .qu 0 0, .qu 0 0, .qu 0 0, .qu 0 0] (by kernel_rfl) (by kernel_rfl) ?_
      simp only [go_sem, Nat.reduceAdd, Nat.reduceSub, Nat.reduceMul, Nat.reduceEqDiff, Nat.reduceLeDiff, Nat.reduceLT, ↓reduceIte, Int.reduceToNat, reduceCtorEq, Int.cast_ofNat_Int, Int.reduceLT, Int.reduceLE, Int.reduceGT, Int.reduceGE, Int.reduceEq, Int.reduceNe, Int.reduceNeg, Int.reduceAdd, Int.reduceSub, Int.le_refl, hn, List.getElem?_map, List.length_map, g1, g4, rd19 n0 n8, hd6, e1]
      exact hK (k + 1) _ _ (by omega) (by omega) (Wk.slots' rfl (by simp [wkS, Ch.get]))
end Go.Proofs.YtojfnagfafoiaaaDoor
