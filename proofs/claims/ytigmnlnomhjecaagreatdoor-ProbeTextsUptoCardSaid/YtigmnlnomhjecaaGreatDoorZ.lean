/- probe: ProbeTexts, as the second card states it. No condition. -/
import Derived.Test.YtigmnlnomhjecaaGreatDoorZ5
import Derived.Shelf.Strconv.Itoa3
import Derived.Shelf.Spec.SlicesGrow
import Derived.Laws.AppendOwn
import Derived.Shelf.Strings.OnBuilder
import Derived.Test.YtigmnlnomhjecaaGreatDoorTie
import Derived.Test.YtigmnlnomhjecaaGreatDoorCards
import Derived.ProofKit
import Derived.OpenShut
import Derived.LaidMore
import Derived.Lay
import Derived.SevenTiedAt
import Derived.Stop.Joined
import Derived.Lib.LaidTab
import Derived.ChangeMaps5
import Derived.Deep.DeepHandedRow
set_option maxRecDepth 100000
set_option linter.unusedVariables false
set_option linter.unusedSimpArgs false
namespace Go.Proofs.YtigmnlnomhjecaaGreatDoor
open Go.AM
open Go.Glob (Bs Dsc)
theorem instrs_c (s : Sp) (y : Sy) : ACalls Tryz.prog 75 [s.av, .agg y.row] [] (fun o H => o = .ret (.func (.func 95) [] [.ptr 1 0 0, .ptr 0 0 0]) ∧ H = [.rows 2 [[.view false 1 (s.perm.map r1), .view false 1 (s.byt.map rb)]], .rows 3 [y.row]]) := by
  refine ACalls.up ?_
  refine ACalls.intro (cs := []) (n := 6) Tryz.func75 rfl rfl rfl (by kernel_rfl) rfl ?_
  simp only [go_sem,Sp.av,Sy.row]
  exact .done ⟨rfl, rfl⟩
theorem decB_n {b : List UInt8} {op a b' : Int} {k : Nat} : (decB b op a b' k).n ≤ 20 ∧ ((decB b op a b' k).e = 0 → 1 ≤ (decB b op a b' k).n) := by
  have hf : 1 ≤ flen (kform op) ∧ flen (kform op) ≤ 20 := by
    simp only [flen, bytesOf]
    repeat' split
    all_goals omega
  rw [decB]
  split
  · exact ⟨hf.2, fun _ => hf.1⟩
  · exact ⟨by simp [Dec.err], fun h => absurd h (by assumption)⟩
theorem dec_bn (b : List UInt8) : (dec b).n ≤ 20 ∧ ((dec b).e = 0 → 1 ≤ (dec b).n) := by
  have e1 : ∀ e : Int, e ≠ 0 → (Dec.err e).n ≤ 20 ∧ ((Dec.err e).e = 0 → 1 ≤ (Dec.err e).n) := fun e h => ⟨by simp [Dec.err], fun h' => absurd h' h⟩
  rcases b with _ | ⟨b0, rest⟩
  · exact e1 21 (by decide)
  · rw [dec_cons]
    split
    · split
      · rcases rest with _ | ⟨b1, rest⟩
        · exact e1 21 (by decide)
        · simp only
          split
          · split
            · exact e1 20 (by decide)
            · exact decB_n
          · split
            · exact e1 20 (by decide)
            · exact decB_n
      · exact decB_n
    · exact e1 20 (by decide)
def insAt (s : Sp) (hi : Int) : Nat → Int → List (Int × Ins)
  | 0, _ => []
  | f + 1, p => if p < hi ∧ (dec (s.fet p 12 0)).e = 0 ∧ p + (dec (s.fet p 12 0)).n ≤ hi then (p, (dec (s.fet p 12 0)).x) :: insAt s hi f (p + (dec (s.fet p 12 0)).n) else []
def insL (s : Sp) (y : Sy) : List (Int × Ins) := insAt s (y.at_ + y.size) y.size.toNat y.at_
theorem hK_app {P : Program} {ops : Array Oper} {rest : List Oper} {Q : XQ} {s : Ch} {H : Heap} {b : Blk} : hK P ops rest Q s (H ++ [b]) = cops P ops rest Q s (H ++ [b]) := id rfl
theorem ins1_c (s : Sp) (hs : s.ok) (y : Sy) (hlo : 0 ≤ y.at_) (hsz : 0 ≤ y.size) (hhi : y.at_ + y.size ≤ 4096) (r qx qs : Nat) (I : Nat → Heap → Prop) (H0 : Heap) (h0 : I 0 H0)
    (hx : ∀ i H, I i H → H[qx]? = some (.rows 3 [y.row])) (hsp : ∀ i H, I i H → H[qs]? = some (.rows 2 [[.view false 1 (s.perm.map r1), .view false 1 (s.byt.map rb)]]))
    (hy : ∀ i a x H, I i H → (insL s y)[i]? = some (a, x) → RYield Tryz.prog r [iv a, x.av] (H ++ [.rows 4 [x.cells]]) (fun o H' => o = .ret (.bool true) ∧ I (i + 1) H')) :
    ACalls Tryz.prog 95 [.yfn r, .ptr qx 0 0, .ptr qs 0 0] H0 (fun o H => o = .ret (.tuple []) ∧ ∃ H1 g, I (insL s y).length H1 ∧ H = H1 ++ g) := by
  refine ACalls.up ?_
  refine ACalls.intro (cs := [4]) (n := 54) Tryz.func95 rfl rfl rfl (by kernel_rfl) rfl ?_
  simp only [go_sem,hx 0 H0 h0,Sy.row]
  refine loop_fam (fun q : Nat × Int × Heap => (((Ch.nil.put 0 (.yfn r)).put 1 (.ptr qx 0 0)).put 2 (.ptr qs 0 0)).put 4 (iv q.2.1)) (fun q => q.2.2) (fun q => (y.at_ + y.size - q.2.1).toNat)
    (fun q => I q.1 q.2.2 ∧ y.at_ ≤ q.2.1 ∧ q.2.1 ≤ 4096 ∧ ∃ f : Nat, y.at_ + y.size - q.2.1 ≤ f ∧ q.1 + (insAt s (y.at_ + y.size) f q.2.1).length = (insL s y).length ∧ (insL s y).drop q.1 = insAt s (y.at_ + y.size) f q.2.1) (0, y.at_, H0) (by kernel_rfl)
    ⟨h0, Int.le_refl _, by simp only; omega, y.size.toNat, by simp only; omega, by simp [insL], by simp [insL]⟩ ?_ ?_
  · exact Wk.slots' rfl (by simp [wkS, Ch.get])
  rintro ⟨i, p, H1⟩ ⟨hI, h1, h2, f, hf, hl, hd⟩ K hK
  simp only at hI h1 h2 hf hl hd
  have hx := hx i H1 hI
  have hsp := hsp i H1 hI
  have e0 : iw .i64 (y.at_ + y.size) = y.at_ + y.size := by rw [iw64] <;> omega
  simp only [go_sem,hx,Sy.row,e0]
  refine condD_dec (fun hc => ?_) (fun hc => ?_)
  · simp only [go_sem,hsp]
    refine rK_use (Go.AM.enters_of Tryz.func96 rfl (by decide)) (ACalls.pure_use (fetch_c s hs p 12 (by decide)) rfl (by simp [AV.lt, ltL])) ?_
    generalize hb : s.fet p 12 0 = b
    have hbl : b.length ≤ 12 := by rw [← hb]; exact s.fet_len p 12 0
    obtain ⟨d, hd'⟩ : ∃ d, d = dec b := ⟨_, rfl⟩
    have hdb := dec_bn b
    rw [← hd'] at hdb
    simp only [go_sem]
    refine seq_cutS (fun _ : Unit => ((((((Ch.nil.put 0 (.yfn r)).put 1 (.ptr qx 0 0)).put 2 (.ptr qs 0 0)).put 4 (iv p)).put 7 (.ptr H1.length 0 0)).put 8 (iv d.n)).put 9 (iv d.e)) (fun _ => H1 ++ [.rows 4 [d.x.cells]]) (fun _ => True) ?_ ?_
    · intro K2 hK2
      simp only [go_sem]
      refine rK_use (Go.AM.enters_of Tryz.func97 rfl (by decide)) (ACalls.pure_use (decode_c b (by omega)) rfl (by simp [Dec.av, AV.lt, ltL, Ins.av, Ins.cells])) ?_
      rw [← hd']
      simp only [go_sem,Dec.av,Ins.av,Ins.cells,hK_app,fun b : Blk => show (H1 ++ [b])[H1.length]? = some b by simp,fun x y : Blk => show (H1 ++ [x]).set H1.length y = H1 ++ [y] by simp]
      refine hK2 () _ _ trivial ?_
      exact Wk.slots' rfl (by simp [wkS, Ch.get, Ins.cells])
    intro _ _
    have q1 : (H1 ++ [Blk.rows 4 [d.x.cells]])[H1.length]? = some (.rows 4 [d.x.cells]) := by simp
    have q2 : (H1 ++ [Blk.rows 4 [d.x.cells]])[qx]? = some (.rows 3 [y.row]) := by
      rw [List.getElem?_append_left (List.getElem?_eq_some_iff.1 hx).1, hx]
    have e1 : iw .i64 (p + d.n) = p + d.n := by rw [iw64] <;> omega
    obtain ⟨f', rfl⟩ : ∃ f', f = f' + 1 := ⟨f - 1, by omega⟩
    rw [insAt, hb, ← hd'] at hd hl
    have hstop : ¬ (d.e = 0 ∧ p + d.n ≤ y.at_ + y.size) → Up (List.length H0) (fun o H => o = Out.ret (AV.tuple []) ∧ ∃ H1 g, I (insL s y).length H1 ∧ H = H1 ++ g) (Out.ret (AV.tuple [])) (H1 ++ [Blk.rows 4 [d.x.cells]]) := fun h => by
      rw [if_neg (fun h' => h h'.2)] at hl
      exact .done ⟨rfl, H1, _, by rw [← hl]; exact hI, rfl⟩
    by_cases he : d.e = 0
    · by_cases hg : p + d.n ≤ y.at_ + y.size
      · have hg' : ¬ (y.at_ + y.size < p + d.n) := by omega
        rw [if_pos ⟨hc, he, hg⟩] at hd hl
        have hi : (insL s y)[i]? = some (p, d.x) := by
          have := congrArg (fun l => l[0]?) hd
          simpa using this
        have hd2 : (insL s y).drop (i + 1) = insAt s (y.at_ + y.size) f' (p + d.n) := by
          rw [← List.drop_drop, hd]; rfl
        have hl2 : i + 1 + (insAt s (y.at_ + y.size) f' (p + d.n)).length = (insL s y).length := by rw [← hl]; simp; omega
        refine SWp.seq (K := fun s' H' => ∃ H2, I (i + 1) H2 ∧ Wk (List.length H0) 54 s' H' ((((((Ch.nil.put 0 (.yfn r)).put 1 (.ptr qx 0 0)).put 2 (.ptr qs 0 0)).put 4 (iv p)).put 8 (iv d.n)).put 50 (.bool false)) H2) ?_ ?_
        · refine SWp.seq (K := fun s' H' => ∃ H2, I (i + 1) H2 ∧ Wk (List.length H0) 54 s' H' ((((((Ch.nil.put 0 (.yfn r)).put 1 (.ptr qx 0 0)).put 2 (.ptr qs 0 0)).put 4 (iv p)).put 8 (iv d.n)).put 50 (.bool false)) H2) ?_ ?_
          · refine SWp.yieldG 17 rfl (by kernel_rfl) ?_
            simp only [go_sem,q1,q2,e0,e1,he,hg',Sy.row]
            refine ⟨rfl, r, rfl, (hy i p d.x H1 hI hi).mono ?_⟩
            rintro o H' ⟨rfl, hI'⟩
            simp only [go_sem]
            refine ⟨H', hI', ?_⟩
            exact Wk.slots' rfl (by simp [wkS, Ch.get])
          · rintro s' H' ⟨H2, hI2, hw⟩
            refine SWp.wk hw (cwp_sound _ (by kernel_rfl) _ _ _ ?_)
            simp only [go_sem]
            refine ⟨H2, hI2, ?_⟩
            exact Wk.slots' rfl (by simp [wkS, Ch.get])
        · rintro s' H' ⟨H2, hI2, hw⟩
          refine SWp.wk hw (cwp_sound _ (by kernel_rfl) _ _ _ ?_)
          simp only [go_sem,e1]
          refine hK (i + 1, p + d.n, H2) _ _ ⟨hI2, by simp only; omega, by simp only; omega, f', by simp only; omega, hl2, hd2⟩ ?_ ?_
          · simp only; have := hdb.2 he; omega
          · exact Wk.slots' rfl (by simp [wkS, Ch.get])
      · have hg' : y.at_ + y.size < p + d.n := by omega
        refine cwp_sound _ (by kernel_rfl) _ _ _ ?_
        simp only [go_sem,q1,q2,e0,e1,he,hg',Sy.row]
        exact hstop (fun h => hg h.2)
    · refine cwp_sound _ (by kernel_rfl) _ _ _ ?_
      simp only [go_sem,q1,q2,e0,e1,he,Sy.row]
      exact hstop (fun h => he h.1)
  · simp only [go_sem]
    refine .done ⟨rfl, H1, [], ?_, (List.append_nil _).symm⟩
    have : insAt s (y.at_ + y.size) f p = [] := by
      rcases f with _ | f
      · rfl
      · rw [insAt, if_neg (fun h => hc h.1)]
    rw [this] at hl
    rw [← hl]; exact hI
end Go.Proofs.YtigmnlnomhjecaaGreatDoor
set_option linter.unusedVariables false
namespace Go.Glob
inductive Nm (fn : Bs) (with_ : Bs → Bool) : Dsc → Prop where
  | no {p f n : Bs} (hp : p ≠ []) (hp2 : p ≠ fn) (hn : n ≠ []) (hf : f ≠ [] ↔ with_ p = true) : Nm fn with_ ⟨p, [], f, n⟩
  | fn {m f n : Bs} (hm : m ≠ []) (hf : f ≠ []) (hn : n ≠ []) : Nm fn with_ ⟨fn, m, f, n⟩
theorem Nm.same {fn : Bs} (hfn : fn ≠ []) {with_ : Bs → Bool} {x y : Dsc} (hx : Nm fn with_ x) (hy : Nm fn with_ y)
    (h : (x.p = [] ∨ x.p = y.p) ∧ (x.m = [] ∨ x.m = y.m) ∧ (x.f = [] ∨ x.f = y.f) ∧ (x.n = [] ∨ x.n = y.n)) : x = y := by
  obtain ⟨h1, h2, h3, h4⟩ := h
  cases hx with
  | @no p f n hp hp2 hn hf =>
    have e1 := h1.resolve_left hp
    have e4 := h4.resolve_left hn
    cases hy with
    | @no p' f' n' hp' hp2' hn' hf' =>
      simp only at e1 e4 h3
      subst e1 e4
      rcases h3 with rfl | rfl
      · have : ¬ f' ≠ [] := fun h => (hf.2 (hf'.1 h)) rfl
        have : f' = [] := Classical.byContradiction this
        rw [this]
      · rfl
    | @fn m' f' n' hm' hf' hn' => exact absurd e1 hp2
  | @fn m f n hm hf hn =>
    have e1 := h1.resolve_left hfn
    have e2 := h2.resolve_left hm
    have e3 := h3.resolve_left hf
    have e4 := h4.resolve_left hn
    obtain ⟨p', m', f', n'⟩ := y
    simp only at e1 e2 e3 e4
    rw [e1, e2, e3, e4]
def digF : Nat → Nat → Bs
  | 0, _ => []
  | k + 1, n => if n < 10 then [UInt8.ofNat (48 + n)] else digF k (n / 10) ++ [UInt8.ofNat (48 + n % 10)]
def dig (n : Nat) : Bs := digF (n + 1) n
theorem digF_more : ∀ (k : Nat) (n j : Nat), n < k → n < j → digF k n = digF j n
  | 0, n, j, h, _ => by omega
  | k + 1, n, 0, _, h => by omega
  | k + 1, n, j + 1, h1, h2 => by
    unfold digF
    split
    · rfl
    · rw [digF_more k (n / 10) j (by omega) (by omega)]
theorem dig_lt {n : Nat} (h : n < 10) : dig n = [UInt8.ofNat (48 + n)] := by rw [dig, digF, if_pos h]
theorem dig_ge {n : Nat} (h : 10 ≤ n) : dig n = dig (n / 10) ++ [UInt8.ofNat (48 + n % 10)] := by
  rw [dig, digF, if_neg (by omega), dig, digF_more n (n / 10) (n / 10 + 1) (by omega) (by omega)]
end Go.Glob
set_option maxRecDepth 100000
set_option linter.unusedVariables false
set_option linter.unusedSimpArgs false
namespace Go.Proofs.YtigmnlnomhjecaaGreatDoor
open Go.AM
open Go.Glob (Bs)
def layF : Go.Shelf.Ren := ⟨fun | 246 => 94 | 283 => 112 | 284 => 113 | 285 => 114 | 286 => 115 | 129 => 127 | 317 => 126 | 318 => 128 | 319 => 129 | 320 => 130 | 337 => 133 | 338 => 134 | n => n, fun | 2 => 2 | 3 => 3 | 9 => 9 | 4 => 4 | 171 => 222 | 0 => 0 | 53 => 223 | 37 => 97 | 5 => 5 | 173 => 226 | 212 => 239 | 51 => 240 | 20 => 20 | 213 => 241 | 46 => 242 | 232 => 246 | 233 => 247 | n => n, fun | 17 => 3 | 18 => 5 | 19 => 6 | n => n⟩
theorem layFmt : LaysM.n246 Tryz.prog layF where
  mixed := by kernel_rfl
  f129 := Tryz.func127.trans (congrArg some (by kernel_rfl))
  f246 := Tryz.func94.trans (congrArg some (by kernel_rfl))
  f283 := Tryz.func112.trans (congrArg some (by kernel_rfl))
  f284 := Tryz.func113.trans (congrArg some (by kernel_rfl))
  f285 := Tryz.func114.trans (congrArg some (by kernel_rfl))
  f286 := Tryz.func115.trans (congrArg some (by kernel_rfl))
  f317 := Tryz.func126.trans (congrArg some (by kernel_rfl))
  f318 := Tryz.func128.trans (congrArg some (by kernel_rfl))
  f319 := Tryz.func129.trans (congrArg some (by kernel_rfl))
  f320 := Tryz.func130.trans (congrArg some (by kernel_rfl))
  f337 := Tryz.func133.trans (congrArg some (by kernel_rfl))
  f338 := Tryz.func134.trans (congrArg some (by kernel_rfl))
  t0 := Tryz.underlying0
  a0 := Tryz.isAgg0
  z0 := Tryz.sizeOf0
  v0 := Tryz.zeroValue0
  t2 := Tryz.underlying2
  a2 := Tryz.isAgg2
  z2 := Tryz.sizeOf2
  v2 := Tryz.zeroValue2
  t3 := Tryz.underlying3
  a3 := Tryz.isAgg3
  z3 := Tryz.sizeOf3
  v3 := Tryz.zeroValue3
  t4 := Tryz.underlying4
  a4 := Tryz.isAgg4
  z4 := Tryz.sizeOf4
  v4 := Tryz.zeroValue4
  t5 := Tryz.underlying5
  a5 := Tryz.isAgg5
  z5 := Tryz.sizeOf5
  v5 := Tryz.zeroValue5
  t9 := Tryz.underlying9
  a9 := Tryz.isAgg9
  z9 := Tryz.sizeOf9
  v9 := Tryz.zeroValue9
  t20 := Tryz.underlying20
  a20 := Tryz.isAgg20
  z20 := Tryz.sizeOf20
  v20 := Tryz.zeroValue20
  t37 := Tryz.underlying97
  a37 := Tryz.isAgg97
  z37 := Tryz.sizeOf97
  v37 := Tryz.zeroValue97
  t46 := Tryz.underlying242
  a46 := Tryz.isAgg242
  z46 := Tryz.sizeOf242
  v46 := Tryz.zeroValue242
  t51 := Tryz.underlying240
  a51 := Tryz.isAgg240
  z51 := Tryz.sizeOf240
  v51 := Tryz.zeroValue240
  t53 := Tryz.underlying223
  a53 := Tryz.isAgg223
  z53 := Tryz.sizeOf223
  v53 := Tryz.zeroValue223
  t171 := Tryz.underlying222
  a171 := Tryz.isAgg222
  z171 := Tryz.sizeOf222
  v171 := Tryz.zeroValue222
  t173 := Tryz.underlying226
  a173 := Tryz.isAgg226
  z173 := Tryz.sizeOf226
  v173 := Tryz.zeroValue226
  t212 := Tryz.underlying239
  a212 := Tryz.isAgg239
  z212 := Tryz.sizeOf239
  v212 := Tryz.zeroValue239
  t213 := Tryz.underlying241
  a213 := Tryz.isAgg241
  z213 := Tryz.sizeOf241
  t232 := Tryz.underlying246
  a232 := Tryz.isAgg246
  z232 := Tryz.sizeOf246
  v232 := Tryz.zeroValue246
  t233 := Tryz.underlying247
  a233 := Tryz.isAgg247
  z233 := Tryz.sizeOf247
  v233 := Tryz.zeroValue247
  g17 := by kernel_rfl
  g18 := by kernel_rfl
  g19 := by kernel_rfl
  i0 := by kernel_rfl
  i2 := by kernel_rfl
  i3 := by kernel_rfl
  i4 := by kernel_rfl
  i5 := by kernel_rfl
  i9 := by kernel_rfl
  i20 := by kernel_rfl
  i37 := by kernel_rfl
  i46 := by kernel_rfl
  i51 := by kernel_rfl
  i53 := by kernel_rfl
  i171 := by kernel_rfl
  i173 := by kernel_rfl
  i212 := by kernel_rfl
  i232 := by kernel_rfl
  i233 := by kernel_rfl
  m17 := by kernel_rfl
  m18 := by kernel_rfl
  m19 := by kernel_rfl
theorem grow_at {w : World} {os : Array Obj} {b : Nat} {o : Obj} (h : w.heap[b]? = some o) : (Sort.grow w os).heap[b]? = some o := by
  obtain ⟨h1, h2⟩ := Array.getElem?_eq_some_iff.1 h
  rw [Sort.grow, Array.getElem?_append_left h1]; exact h
theorem Rel.growN {sn : Snap} {ρ : Env} {H : Heap} {w : World} (h : Rel sn ρ H w) (k : Nat) (os : Array Obj) : Rel sn ρ H (Sort.grow (w.drewN k) os) ∧ Ext sn ρ H w sn ρ H (Sort.grow (w.drewN k) os) := by
  refine ⟨⟨h.gl, fun b o hb => grow_at (h.snap b o hb), fun r blk p h1 h2 h3 => ?_, h.inj, h.top⟩, ⟨fun _ _ h => h, fun _ _ => rfl, Nat.le_refl _, fun _ _ h => h, ?_, rfl, rfl, rfl, fun b hb _ => ?_, fun b hb => absurd rfl hb, fun b hb => .inr hb⟩⟩
  · obtain ⟨g1, o, g2, g3⟩ := h.own r blk p h1 h2 h3
    exact ⟨g1, o, grow_at g2, g3⟩
  · simp [Sort.grow, World.drewN]
  · show (w.heap ++ os)[b]? = w.heap[b]?
    rw [Array.getElem?_append_left hb]
theorem ACalls.ofGrow {P : Program} {f : FuncId} {args : List AV} {v : AV} (h : ∀ (sn : Snap) (ρ : Env) (w : World) (vs : Array Value), GlOk sn → (∀ b o, sn b = some o → w.heap[b]? = some o) → VRs sn ρ args vs.toList →
    ∃ cv, VR sn ρ v cv ∧ Calls P f vs w fun e w' => e = .returned cv ∧ ∃ k os, w' = Sort.grow (w.drewN k) os) : ACalls P f args [] (fun o H2 => o = .ret v ∧ H2 = []) := by
  intro sn ρ w vs hR hv
  obtain ⟨cv, h1, h2⟩ := h sn ρ w vs hR.gl hR.snap hv
  refine h2.mono ?_
  rintro e w' ⟨rfl, k, os, rfl⟩
  exact ⟨sn, ρ, [], .ret v, h1, (Rel.growN hR k os).1, (Rel.growN hR k os).2, rfl, rfl⟩
theorem pow10_in : gtab.find? (fun x => x.1 == 3) = some (3, Lib.pow10Tab.map fun z => Value.int .u64 z) := by kernel_rfl
theorem pow10_ok {sn : Snap} {w : World} (hg : GlOk sn) (hs : ∀ b o, sn b = some o → w.heap[b]? = some o) : Lib.TabIs Tryz.prog w "internal/strconv.uint64pow10" .u64 Lib.pow10Tab := by
  obtain ⟨c, t, f, h1, h2⟩ := hg _ (List.mem_of_find?_eq_some pow10_in)
  rw [Lib.TabIs, World.var?, show Tryz.prog.globalNamed "internal/strconv.uint64pow10" = some 3 by kernel_rfl]
  simp only [Option.bind_some, hs _ _ h1]
  exact congrArg some (Array.ext' h2)
theorem fmt1_c (n : Int) (h0 : -9223372036854775808 ≤ n) (h1 : n ≤ 9223372036854775807) : ACalls Tryz.prog 94 [iv n, iv 10] [] (fun o H => o = .ret (Sv (Lib.itoa n)) ∧ H = []) := by
  refine ACalls.ofGrow fun sn ρ w vs hg hs hv => ?_
  obtain ⟨l0⟩ := vs
  obtain ⟨hl, hvs⟩ := hv
  match l0, hl, hvs with
  | [u, v], _, hvs =>
    have hu := hvs 0 _ u rfl rfl
    have hv := hvs 1 _ v rfl rfl
    cases hu
    cases hv
    exact ⟨.string ⟨(Lib.itoa n).toArray⟩, .str _ _, Any.internal_strconv_FormatInt_10 layFmt n h0 h1 w (pow10_ok hg hs)⟩
theorem itoa_dig (n : Nat) : Lib.itoa n = Glob.dig n := by
  have key : ∀ k n : Nat, n < k → Lib.decDigits n = Glob.dig n := by
    intro k
    induction k with
    | zero => intro n h; omega
    | succ k ih =>
      intro n h
      rw [Lib.decDigits]
      split
      · rename_i h; rw [Glob.dig_lt h]
      · rename_i h; rw [Glob.dig_ge (by omega), ih _ (by omega)]
  rw [Lib.itoa, if_neg (by omega)]
  exact key (n + 1) n (by omega)
theorem fmt_c (n : Nat) (h : n ≤ 9223372036854775807) : ACalls Tryz.prog 76 [iv n, iv 10] [] (fun o H => o = .ret (Sv (Glob.dig n)) ∧ H = []) := by
  refine ACalls.up ?_
  refine ACalls.intro (cs := []) (n := 8) Tryz.func76 rfl rfl rfl (by kernel_rfl) rfl ?_
  simp only [go_sem]
  refine rK_use (Go.AM.enters_of Tryz.func94 rfl (by decide)) (ACalls.pure_use (fmt1_c n (by omega) (by omega)) rfl rfl) ?_
  simp only [go_sem]
  exact finv rfl ⟨by rw [itoa_dig], rfl⟩ _
theorem itoaI_c (n : Nat) (h : n ≤ 9223372036854775807) : ACalls Tryz.prog 73 [iv n] [] (fun o H => o = .ret (Sv (Glob.dig n)) ∧ H = []) := by
  refine ACalls.up ?_
  refine ACalls.intro (cs := []) (n := 5) Tryz.func73 rfl rfl rfl (by kernel_rfl) rfl ?_
  simp only [go_sem]
  refine rK_use (Go.AM.enters_of Tryz.func94 rfl (by decide)) (ACalls.pure_use (fmt1_c n (by omega) (by omega)) rfl rfl) ?_
  simp only [go_sem]
  exact finv rfl ⟨by rw [itoa_dig], rfl⟩ _
theorem itoa_c (n : Nat) (h : n ≤ 9223372036854775807) : ACalls Tryz.prog 50 [iv n] [] (fun o H => o = .ret (Sv (Glob.dig n)) ∧ H = []) := by
  refine ACalls.up ?_
  refine ACalls.intro (cs := []) (n := 5) Tryz.func50 rfl rfl rfl (by kernel_rfl) rfl ?_
  simp only [go_sem]
  refine rK_use (Go.AM.enters_of Tryz.func73 rfl (by decide)) (ACalls.pure_use (itoaI_c n h) rfl rfl) ?_
  simp only [go_sem]
  exact finv rfl ⟨rfl, rfl⟩ _
end Go.Proofs.YtigmnlnomhjecaaGreatDoor
set_option maxRecDepth 100000
set_option linter.unusedVariables false
set_option linter.unusedSimpArgs false
namespace Go.Proofs.YtigmnlnomhjecaaGreatDoor
open Go.AM
open Go.Glob (Bs Dsc)
def layG : Go.Shelf.Ren := ⟨fun | 4 => 98 | n => n, fun | 22 => 48 | 25 => 57 | 3 => 3 | 4 => 4 | 9 => 9 | 20 => 20 | 0 => 0 | n => n, fun n => n⟩
theorem layGrow : Lays8.n4 Tryz.prog layG where
  mixed := by kernel_rfl
  f4 := ⟨Tryz.f98.name, by kernel_rfl, Tryz.func98.trans (congrArg some (by kernel_rfl))⟩
  t0 := Tryz.underlying0
  a0 := Tryz.isAgg0
  z0 := Tryz.sizeOf0
  v0 := Tryz.zeroValue0
  t3 := Tryz.underlying3
  a3 := Tryz.isAgg3
  z3 := Tryz.sizeOf3
  v3 := Tryz.zeroValue3
  t4 := Tryz.underlying4
  a4 := Tryz.isAgg4
  z4 := Tryz.sizeOf4
  v4 := Tryz.zeroValue4
  t9 := Tryz.underlying9
  a9 := Tryz.isAgg9
  z9 := Tryz.sizeOf9
  v9 := Tryz.zeroValue9
  t20 := Tryz.underlying20
  a20 := Tryz.isAgg20
  z20 := Tryz.sizeOf20
  v20 := Tryz.zeroValue20
  t22 := Tryz.underlying48
  a22 := Tryz.isAgg48
  z22 := Tryz.sizeOf48
  v22 := Tryz.zeroValue48
theorem grow_c (n : Nat) (hn : n ≤ 100000) : ACalls Tryz.prog 98 [.view true 0 [], iv n] [] (fun o H => o = .ret (.sl 0 0 0 none) ∧ H = [.rows 6 []]) := by
  intro sn ρ w vs hR hv
  obtain ⟨l0⟩ := vs
  obtain ⟨hl, hvs⟩ := hv
  match l0, hl, hvs with
  | [u, v], _, hvs =>
    have hu := hvs 0 _ u rfl rfl
    have hv := hvs 1 _ v rfl rfl
    cases hv
    obtain ⟨a, b, o, c, xs, rfl, hle, hmx, hfu, ha, hz, hcl, ho, hr⟩ := hu.view_inv
    have hc0 : c = 0 := hfu rfl
    subst hc0
    rcases Nat.eq_zero_or_pos n with hn0 | hn0
    · subst hn0
      refine (Any8.slices_Grow_room layGrow a 0 0 0 w (Nat.le_refl _) (by decide) (by decide) (Nat.le_refl _)).mono ?_
      rintro e w' ⟨rfl, rfl⟩
      obtain ⟨h1, h2⟩ := hR.ghost (.rows 6 [])
      exact ⟨sn, ρ, _, .ret (.sl 0 0 0 none), .sl0 _ _ _ _ _ (by simp), h1, h2, rfl, rfl⟩
    · obtain ⟨inf, dd, z, k1, k2, k3, k4, k5, k6, k7⟩ := tinfo_ok T57
      have k4 : inf.size = 6 := k4
      have k5 : inf.bytes = 80 := k5
      refine (Any8.slices_Grow_grow layGrow inf z k1 k3 (by omega) a 0 0 n [] w (Nat.le_refl _) (by omega) (by rw [k5]; omega) (by omega) (by simp) (fun _ => rfl) (by simp)).mono ?_
      rintro e w' ⟨rfl, rfl⟩
      have hzs : z.cells.size = 6 := by
        have := congrArg List.length k6
        simpa using this.symm
      have hge := grownCap_ge w (0 + n) 0 (layG.t 25)
      have hmx := grownCap_le_maxLen w (0 + n) 0 (layG.t 25) (by simp only [maxLen]; omega)
      generalize grownCap w (0 + n) 0 (layG.t 25) = cap at *
      generalize hcs : (([] : List Value).toArray ++ Builtin.zeroCells z.cells (0 + n - 0) ++ Builtin.zeroCells z.cells (cap - (0 + n))) = cs
      have hsz : cs.size = cap * 6 := by
        rw [← hcs]
        simp only [Array.size_append, zeroCells_size, hzs]
        simp
        omega
      obtain ⟨r1, r2⟩ := hR.push (w' := w.drew.alloc (.cells cs (layG.t 25))) (blk := .rows 6 []) (obj := .cells cs (layG.t 25)) (sz := 6) (n := cs.size) rfl rfl rfl rfl trivial ⟨rfl, rfl, by simp, by simp, by simp, by simp⟩
      refine ⟨sn, _, _, .ret (.sl 0 0 0 none), ?_, r1, r2, rfl, rfl⟩
      exact VR.sl _ _ _ _ cap none _ _ (envPut_same _ _ _) (fun _ => by simp) (by omega) hmx (by rw [hsz]; simp) (by simp)
def sumL (L : List (List (List AV))) : Nat := L.flatten.length
theorem sumL_take {L : List (List (List AV))} {i : Nat} {l : List (List AV)} (h : L[i]? = some l) : sumL (L.take (i + 1)) = sumL (L.take i) + l.length := by
  rw [sumL, sumL, List.take_add_one, h]; simp
theorem sumL_le {L : List (List (List AV))} : ∀ i, sumL (L.take i) ≤ sumL L := fun i => by
  have := congrArg (fun l => l.flatten.length) (List.take_append_drop i L)
  simp only [List.flatten_append, List.length_append] at this
  rw [sumL, sumL]; omega
theorem concat_c (L : List (List (List AV))) (hL : L.length ≤ 1000) (hs : sumL L ≤ 100000) (hp0 : ∀ row ∈ L.flatten, ltL 0 row = true) :
    ACalls Tryz.prog 77 [.view false 1 (L.map fun l => [.view false 6 l])] [] (fun o H => o = .ret (.view false 6 L.flatten) ∧ H = []) := by
  have hp : ∀ row ∈ L.flatten, ∀ x ∈ row, x.pure = true := fun row hr x hx => by
    obtain ⟨k, hk⟩ := List.getElem?_of_mem hx
    exact ltL_get (hp0 row hr) hk
  refine ACalls.up ?_
  refine ACalls.intro (cs := [9]) (n := 36) Tryz.func77 rfl rfl rfl (by kernel_rfl) rfl ?_
  simp only [go_sem,List.length_map]
  obtain ⟨V, hV⟩ : ∃ V, V = L.map (fun l => [AV.view false 6 l]) := ⟨_, rfl⟩
  have hVl : V.length = L.length := by rw [hV, List.length_map]
  rw [← hV]
  refine seq_cut (fun _ : Unit => (Ch.nil.put 0 (.view false 1 V)).put 3 (iv (sumL L))) (fun _ => []) (fun _ => True) (by kernel_rfl) ?_ ?_
  · intro K hK
    simp only [go_sem,hVl]
    refine loop_fam (fun i : Nat => (((((Ch.nil.put 0 (.view false 1 V)).put 3 (iv (sumL (L.take i)))).put 9 (.view false 1 V)).put 10 (iv L.length)).put 11 (iv i))) (fun i => []) (fun i => L.length - i) (fun i => i ≤ L.length) 0 (by kernel_rfl) (Nat.zero_le _) ?_ ?_
    · exact Wk.slots' rfl (by simp [wkS, Ch.get, sumL])
    rintro i hi K2 hK2
    simp only [go_sem]
    refine condD_dec (fun hc => ?_) (fun hc => ?_)
    · have hil : i < L.length := by omega
      have h1 : V[i]? = some [AV.view false 6 L[i]] := by rw [hV, List.getElem?_map, List.getElem?_eq_getElem hil]; rfl
      have h2 : (0 : Int) ≤ i ∧ (i : Int) < (V.length : Int) := by omega
      have h3 := sumL_take (List.getElem?_eq_getElem hil)
      have h4 := sumL_le (L := L) (i + 1)
      have e1 : iw .i64 ((sumL (L.take i) : Int) + (L[i].length : Int)) = ((sumL (L.take (i + 1)) : Nat) : Int) := by rw [iw64] <;> omega
      have e2 : iw .i64 ((i : Int) + 1) = ((i + 1 : Nat) : Int) := by rw [iw64] <;> omega
      have e3 : ¬ (((sumL (L.take (i + 1)) : Nat) : Int) < 0) := by omega
      simp only [go_sem,h1,h2,e1,e2,e3]
      refine hK2 (i + 1) _ _ (by omega) (by omega) ?_
      exact Wk.slots' rfl (by simp [wkS, Ch.get])
    · simp only [go_sem]
      obtain rfl : i = L.length := by omega
      refine hK () _ _ trivial ?_
      refine Wk.slots' rfl ?_
      simp [wkS, Ch.get, List.take_of_length_le (Nat.le_refl _)]
  rintro _ _
  simp only [go_sem]
  refine rK_use (Go.AM.enters_of Tryz.func98 rfl (by decide)) ((grow_c (sumL L) hs).mono (Q' := fun o H => o = .ret (.sl 0 0 0 none) ∧ H = [.rows 6 []]) fun o H h => h) ?_
  simp only [go_sem,hVl]
  refine loop_fam (fun q : Nat => ((((Ch.nil.put 6 (.sl 0 0 (sumL (L.take q)) none)).put 25 (.view false 1 V)).put 26 (iv L.length)).put 27 (iv q))) (fun q => [.rows 6 (L.take q).flatten]) (fun q => L.length - q) (fun q => q ≤ L.length) 0 (by kernel_rfl) (Nat.zero_le _) ?_ ?_
  · exact Wk.slots' rfl (by simp [wkS, Ch.get, sumL])
  rintro i hi K2 hK2
  simp only [go_sem]
  refine condD_dec (fun hc => ?_) (fun hc => ?_)
  · have hil : i < L.length := by omega
    have h1 : V[i]? = some [AV.view false 6 L[i]] := by rw [hV, List.getElem?_map, List.getElem?_eq_getElem hil]; rfl
    have h2 : (0 : Int) ≤ i ∧ (i : Int) < (V.length : Int) := by omega
    have h3 := sumL_take (List.getElem?_eq_getElem hil)
    have h4 := sumL_le (L := L) (i + 1)
    have e2 : iw .i64 ((i : Int) + 1) = ((i + 1 : Nat) : Int) := by rw [iw64] <;> omega
    have h5 : sumL (L.take i) ≤ (L.take i).flatten.length ∧ sumL (L.take i) + L[i].length ≤ 68719476736 := ⟨Nat.le_refl _, by omega⟩
    have h6 : (L.take i).flatten.take (sumL (L.take i)) = (L.take i).flatten := List.take_of_length_le (Nat.le_refl _)
    have h7 : (L.take i).flatten ++ L[i] = (L.take (i + 1)).flatten := by rw [List.take_add_one, List.getElem?_eq_getElem hil, List.flatten_append]; simp
    simp only [go_sem,h1,h2,e2,h5,h6,h7]
    rw [← h3]
    refine hK2 (i + 1) _ _ (by omega) (by omega) (Wk.push (A := []) (b := .rows 6 (L.take (i + 1)).flatten) 1 rfl rfl (by simp) (by simp) ?_ (by simp) (by simp [wkP, Ch.get, AV.ren, pu_lt, pu_eq]))
    refine blt0 fun row hr => hp0 row ?_
    have := congrArg List.flatten (List.take_append_drop (i + 1) L)
    rw [← this, List.flatten_append]
    exact List.mem_append_left _ hr
  · simp only [go_sem]
    obtain rfl : i = L.length := by omega
    rw [List.take_of_length_le (Nat.le_refl _)]
    refine .fz 0 6 L.flatten rfl hp (by simp [Out.fzOk, AV.fzOk, sumL]) (by simp [Blk.fzOk]) ?_
    refine .gc 0 (Nat.le_refl _) (Nat.zero_le _) (by simp [Out.fz, AV.fz, Out.lt, AV.lt]) (by simp) (.done ⟨?_, rfl⟩)
    simp only [Out.fz, AV.fz, if_pos, List.drop_zero]
    rw [sumL, List.take_of_length_le (Nat.le_refl _)]
end Go.Proofs.YtigmnlnomhjecaaGreatDoor
set_option maxRecDepth 100000
set_option linter.unusedVariables false
set_option linter.unusedSimpArgs false
namespace Go.Proofs.YtigmnlnomhjecaaGreatDoor
open Go.AM
open Go.Glob (Bs Dsc)
def sFunction : Bs := [102, 117, 110, 99, 116, 105, 111, 110]
def sEntry : Bs := [101, 110, 116, 114, 121]
def sReturn : Bs := [114, 101, 116, 117, 114, 110]
def pbAt (pc : Pc) (y : Sy) (pid : Int) (n : Bs) (a : Int) : Pb := ⟨⟨sFunction, pc.name, y.name, n⟩, pid, a⟩
theorem FWp.wk {P : Program} {n B : Nat} {fn : Func} {Q : CQ} {cs : List Code} {s s' : Ch} {H H' : Heap} (hw : Wk B n s H s' H') (h : FWp P n B fn Q cs s' H') : FWp P n B fn Q cs s H := by
  intro sn ρ w a hR hs hd hB
  obtain ⟨sn1, ρ1, h1, h2, h3⟩ := hw sn ρ w a.tmps hB hR hs
  exact chain_mono (postM_mono (RR.ext h3)) _ _ _ (h sn1 ρ1 w a h1 h2 hd h3.len)
theorem at1_c (pc : Pc) (y : Sy) (pid : Int) (n : Bs) (a : Int) (H : Heap) (hl : ∀ b ∈ H, b.lt H.length) (h1 : H[1]? = some (.rows 1 [[iv pid]])) (h2 : H[2]? = some (.rows 3 [y.row])) (h3 : H[3]? = some (.rows 6 [pc.row])) :
    ACalls Tryz.prog 74 [Sv n, iv a, .ptr 3 0 0, .ptr 2 0 0, .ptr 1 0 0] H (fun o H2 => o = .ret (pbAt pc y pid n a).av ∧ H2 = H) := by
  refine ACalls.up ?_
  refine ACalls.intro (cs := []) (n := 17) Tryz.func74 rfl rfl rfl (by kernel_rfl) rfl ?_
  simp only [go_sem,hK_app]
  have q : ∀ (j : Nat) (b x : Blk), H[j]? = some b → (H ++ [x])[j]? = some b := fun j b x h => by
    rw [List.getElem?_append_left (List.getElem?_eq_some_iff.1 h).1, h]
  simp only [go_sem,q 1 _ _ h1,q 2 _ _ h2,q 3 _ _ h3,Pc.row,Sy.row,hK_app,fun b : Blk => show (H ++ [b])[H.length]? = some b by simp,fun x z : Blk => show (H ++ [x]).set H.length z = H ++ [z] by simp]
  exact .gc H.length (Nat.le_refl _) (by simp) rfl (by simpa using hl) (.done ⟨rfl, by simp⟩)
theorem tl_grow {T : Heap} {p : Nat} {x z : Blk} (hT : ∀ b ∈ T, b.lt 0) (hx : x.lt 0) (hz : z.lt 0) : ∀ b ∈ (T ++ [x]).set p .dead ++ [z], b.lt 0 := by
  intro b hb
  rcases List.mem_append.1 hb with hb | hb
  · rcases List.mem_or_eq_of_mem_set hb with hb | rfl
    · rcases List.mem_append.1 hb with hb | hb
      · exact hT b hb
      · rw [List.mem_singleton.1 hb]; exact hx
    · trivial
  · rw [List.mem_singleton.1 hb]; exact hz
theorem tl_at {T : Heap} {p q : Nat} {x z b : Blk} (h : T[q]? = some b) (hne : p ≠ q) : ((T ++ [x]).set p .dead ++ [z])[q]? = some b := by
  have hq := (List.getElem?_eq_some_iff.1 h).1
  rw [List.getElem?_append_left (by simp; omega), List.getElem?_set_ne hne, List.getElem?_append_left hq, h]
theorem tl_app {T : Heap} {q : Nat} {b x : Blk} (h : T[q]? = some b) : (T ++ [x])[q]? = some b := by
  rw [List.getElem?_append_left (List.getElem?_eq_some_iff.1 h).1, h]
theorem tl_new {T : Heap} {p : Nat} {x z : Blk} : ((T ++ [x]).set p .dead ++ [z])[T.length + 1]? = some z := by
  rw [List.getElem?_append_right (by simp)]; simp
theorem Pb.row_lt (x : Pb) (m : Nat) : ltL m x.row = true := rfl
def plH (k : Kn) (pid : Int) (y : Sy) (pc : Pc) (lb : Blk) (pe ne pr nr pa na : Nat) (T : Heap) : Heap :=
  .rows 8 [k.row] :: .rows 1 [[iv pid]] :: .rows 3 [y.row] :: .rows 6 [pc.row] :: .rows 1 [[.sl (pe + 1 + 1 + 1 + 1 + 1 + 1 + 1 + 1 + 1 + 1 + 1) 0 ne none]] :: .rows 1 [[.sl (pr + 1 + 1 + 1 + 1 + 1 + 1 + 1 + 1 + 1 + 1 + 1) 0 nr none]] :: .rows 1 [[.sl (pa + 1 + 1 + 1 + 1 + 1 + 1 + 1 + 1 + 1 + 1 + 1) 0 na none]] ::
    .rows 1 [[.func (.func 74) [] [.ptr 3 0 0, .ptr 2 0 0, .ptr 1 0 0]]] :: .rows 2 [[.view false 1 (pc.s.perm.map r1), .view false 1 (pc.s.byt.map rb)]] :: .rows 3 [y.row] :: lb :: T
def pbRows (l : List Pb) : Blk := .rows 6 (l.map Pb.row)
structure plT (T : Heap) (pe pr pa : Nat) (E R A : List Pb) : Prop where
  lt : ∀ b ∈ T, b.lt 0
  e : T[pe]? = some (pbRows E)
  r : T[pr]? = some (pbRows R)
  a : T[pa]? = some (pbRows A)
  er : pe ≠ pr
  ea : pe ≠ pa
  ra : pr ≠ pa
theorem plT.app {T : Heap} {pe pr pa : Nat} {E R A : List Pb} (h : plT T pe pr pa E R A) {x : Blk} (hx : x.lt 0) : plT (T ++ [x]) pe pr pa E R A :=
  ⟨fun b hb => (List.mem_append.1 hb).elim (h.lt b) (fun hb => by rw [List.mem_singleton.1 hb]; exact hx), tl_app h.e, tl_app h.r, tl_app h.a, h.er, h.ea, h.ra⟩
theorem plT.ne {T : Heap} {p q : Nat} {L : List Pb} {xs : List (List AV)} (h : T[p]? = some (pbRows L)) (hq : T[q]? = some (.rows 4 xs)) : p ≠ q := by
  rintro rfl
  rw [hq] at h
  simp [pbRows] at h
theorem plT.new {T : Heap} {p : Nat} {L : List Pb} (pb : Pb) (hT : ∀ b ∈ T, b.lt 0) : ∀ b ∈ (T ++ [Blk.rows 6 [pb.row]]).set p .dead ++ [pbRows L], b.lt 0 :=
  tl_grow hT (by simp [Blk.lt, Pb.row_lt]) (rows_lt (fun _ => rfl) _)
theorem plT.newE {T : Heap} {pe pr pa : Nat} {E R A : List Pb} (h : plT T pe pr pa E R A) (pb : Pb) : plT ((T ++ [Blk.rows 6 [pb.row]]).set pe .dead ++ [pbRows (E ++ [pb])]) (T.length + 1) pr pa (E ++ [pb]) R A := by
  have h1 := (List.getElem?_eq_some_iff.1 h.r).1
  have h2 := (List.getElem?_eq_some_iff.1 h.a).1
  exact ⟨plT.new pb h.lt, tl_new, tl_at h.r h.er, tl_at h.a h.ea, by omega, by omega, h.ra⟩
theorem plT.newR {T : Heap} {pe pr pa : Nat} {E R A : List Pb} (h : plT T pe pr pa E R A) (pb : Pb) : plT ((T ++ [Blk.rows 6 [pb.row]]).set pr .dead ++ [pbRows (R ++ [pb])]) pe (T.length + 1) pa E (R ++ [pb]) A := by
  have h1 := (List.getElem?_eq_some_iff.1 h.e).1
  have h2 := (List.getElem?_eq_some_iff.1 h.a).1
  exact ⟨plT.new pb h.lt, tl_at h.e (Ne.symm h.er), tl_new, tl_at h.a h.ra, by omega, h.ea, by omega⟩
theorem plT.newA {T : Heap} {pe pr pa : Nat} {E R A : List Pb} (h : plT T pe pr pa E R A) (pb : Pb) : plT ((T ++ [Blk.rows 6 [pb.row]]).set pa .dead ++ [pbRows (A ++ [pb])]) pe pr (T.length + 1) E R (A ++ [pb]) := by
  have h1 := (List.getElem?_eq_some_iff.1 h.e).1
  have h2 := (List.getElem?_eq_some_iff.1 h.r).1
  exact ⟨plT.new pb h.lt, tl_at h.e (Ne.symm h.ea), tl_at h.r (Ne.symm h.ra), tl_new, h.er, by omega, by omega⟩
theorem plH_lt {k : Kn} {pid : Int} {y : Sy} {pc : Pc} {lb : Blk} {pe ne pr nr pa na : Nat} {T : Heap} (hT : ∀ b ∈ T, b.lt 0) (he : pe < T.length) (hr : pr < T.length) (ha : pa < T.length) (hlb : lb.lt 8) :
    ∀ b ∈ plH k pid y pc lb pe ne pr nr pa na T, b.lt (plH k pid y pc lb pe ne pr nr pa na T).length := by
  have hl : (plH k pid y pc lb pe ne pr nr pa na T).length = T.length + 11 := rfl
  rw [hl]
  intro b hb
  simp only [plH, List.mem_cons] at hb
  rcases hb with rfl | rfl | rfl | rfl | rfl | rfl | rfl | rfl | rfl | rfl | rfl | hb
  · exact kb_lt k _
  · simp [Blk.lt, ltL, AV.lt]
  · simp [Blk.lt, ltL, AV.lt, Sy.row]
  · simp [Blk.lt, ltL, AV.lt, Pc.row]
  · simp [Blk.lt, ltL, AV.lt]; omega
  · simp [Blk.lt, ltL, AV.lt]; omega
  · simp [Blk.lt, ltL, AV.lt]; omega
  · simp [Blk.lt, ltL, AV.lt]
  · simp [Blk.lt, ltL, AV.lt]
  · simp [Blk.lt, ltL, AV.lt, Sy.row]
  · exact blt_le (by omega) hlb
  · exact blt_le (by omega) (hT b hb)
theorem pb_pure (l : List Pb) : ∀ row ∈ l.map Pb.row, ∀ x ∈ row, x.pure = true := fun row hr x hx => by
  obtain ⟨b, _, rfl⟩ := List.mem_map.1 hr
  obtain ⟨k, hk⟩ := List.getElem?_of_mem hx
  exact ltL_get (Pb.row_lt b 0) hk
theorem pb_fzOk {r n : Nat} (l : List Pb) : (pbRows l).fzOk r n := fun row hr => by
  obtain ⟨b, _, rfl⟩ := List.mem_map.1 hr
  simp [Pb.row, fzOkL, AV.fzOk]
theorem pb_fz {r sz : Nat} {ys : List (List AV)} (l : List Pb) : (pbRows l).fz r sz ys = pbRows l := by
  simp [pbRows, Blk.fz, Pb.row, fzL, AV.fz, Function.comp_def]
theorem pb_ren (l : List Pb) (π : Nat → Nat) : (pbRows l).ren π = pbRows l :=
  bren_lt (m := 0) (fun k hk => absurd hk (Nat.not_lt_zero k)) (rows_lt (fun _ => rfl) _)
theorem plH_pick {k : Kn} {pid : Int} {y : Sy} {pc : Pc} {lb : Blk} {pe pr pa N : Nat} {E R A : List Pb} {T g : Heap} (hT : plT T pe pr pa E R A) :
    [4, 5, 6, pe + 11, pr + 11, pa + 11].map (fun i => ((plH k pid y pc lb pe E.length pr R.length pa A.length T ++ g).set 10 .dead)[i]?) =
    [.rows 1 [[.sl 3 0 E.length none]], .rows 1 [[.sl 4 0 R.length none]], .rows 1 [[.sl 5 0 A.length none]], pbRows E, pbRows R, pbRows A].map (fun b => some (b.ren (pi [4, 5, 6, pe + 11, pr + 11, pa + 11] N))) := by
  have hl : ∀ q L, T[q]? = some (pbRows L) → ((plH k pid y pc lb pe E.length pr R.length pa A.length T ++ g).set 10 .dead)[q + 11]? = some (pbRows L) := fun q L h => by
    show (T ++ g)[q]? = _
    rw [List.getElem?_append_left (List.getElem?_eq_some_iff.1 h).1, h]
  simp only [List.map_cons, List.map_nil, hl _ _ hT.e, hl _ _ hT.r, hl _ _ hT.a, pb_ren]
  rfl
def entP (pc : Pc) (y : Sy) (pid : Int) (q : Int × Ins) : List Pb := if q.1 = y.at_ then [pbAt pc y pid sEntry q.1] else []
def retP (pc : Pc) (y : Sy) (pid : Int) (q : Int × Ins) : List Pb := if q.2.op = 29 then [pbAt pc y pid sReturn q.1] else []
def allP (pc : Pc) (y : Sy) (pid : Int) (q : Int × Ins) : Pb := pbAt pc y pid (Glob.dig (q.1 - y.at_).toNat) q.1
def plS : Ch := (((((((Ch.nil.put 3 (.ptr 0 0 0)).put 4 (.ptr 1 0 0)).put 5 (.ptr 2 0 0)).put 7 (.ptr 3 0 0)).put 8 (.ptr 4 0 0)).put 9 (.ptr 5 0 0)).put 10 (.ptr 6 0 0)).put 11 (.ptr 7 0 0)
theorem insAt_mem {s : Sp} {hi : Int} : ∀ {f : Nat} {p : Int} {q : Int × Ins}, q ∈ insAt s hi f p → p ≤ q.1 ∧ q.1 < hi
  | 0, p, q, h => by simp [insAt] at h
  | f + 1, p, q, h => by
    rw [insAt] at h
    split at h
    · rename_i hc
      rcases List.mem_cons.1 h with rfl | h
      · exact ⟨Int.le_refl _, hc.1⟩
      · have := insAt_mem h
        omega
    · simp at h
theorem insAt_len {s : Sp} {hi : Int} : ∀ {f : Nat} {p : Int}, (insAt s hi f p).length ≤ f
  | 0, p => by simp [insAt]
  | f + 1, p => by
    rw [insAt]
    split
    · have := insAt_len (s := s) (hi := hi) (f := f) (p := p + (dec (s.fet p 12 0)).n)
      simp; omega
    · simp
theorem ent_len {pc : Pc} {y : Sy} {pid : Int} : ∀ l : List (Int × Ins), (l.flatMap (entP pc y pid)).length ≤ l.length
  | [] => by simp
  | q :: l => by
    have := ent_len (pc := pc) (y := y) (pid := pid) l
    rw [List.flatMap_cons, List.length_append, List.length_cons, entP]
    split
    · rw [List.length_singleton]; omega
    · rw [List.length_nil]; omega
theorem ret_len {pc : Pc} {y : Sy} {pid : Int} : ∀ l : List (Int × Ins), (l.flatMap (retP pc y pid)).length ≤ l.length
  | [] => by simp
  | q :: l => by
    have := ret_len (pc := pc) (y := y) (pid := pid) l
    rw [List.flatMap_cons, List.length_append, List.length_cons, retP]
    split
    · rw [List.length_singleton]; omega
    · rw [List.length_nil]; omega
def placedL (pc : Pc) (y : Sy) (pid : Int) : List Pb := (insL pc.s y).flatMap (entP pc y pid) ++ (insL pc.s y).flatMap (retP pc y pid) ++ (insL pc.s y).map (allP pc y pid)
theorem ACalls.freshL {P : Program} {f : FuncId} {args : List AV} {v v' : AV} {bs : Heap} {H : Heap} (hc : ACalls P f args [] (fun o H => o = .ret v ∧ H = bs)) (ha : ltL 0 args = true) (hb : ∀ b ∈ bs, b.lt 0) (hv : v.ren (pi [] H.length) = v') : ACalls P f args H (fun o H2 => o = .ret v' ∧ H2 = H ++ bs) := by
  refine hc.useE [] v' (H ++ bs) List.nodup_nil rfl (by simp) rfl (renL_pure' ha).symm hv ?_
  have : bs.map (Blk.ren (pi [] H.length)) = bs := by
    conv => rhs; rw [← List.map_id bs]
    exact List.map_congr_left fun b h => bren_lt (m := 0) (fun k hk => absurd hk (Nat.not_lt_zero k)) (hb b h)
  simp [patch, setMany, this]
theorem ACalls.ghost {P : Program} {f : FuncId} {args : List AV} {H : Heap} {Q : CQ} (b : Blk) (h : ACalls P f args (H ++ [b]) Q) : ACalls P f args H Q := by
  intro sn ρ w vs hR hv
  obtain ⟨h1, h2⟩ := hR.ghost b
  refine (h sn ρ w vs h1 hv).mono ?_
  rintro e w' ⟨sn', ρ', H', out, g1, g2, g3, g4⟩
  exact ⟨sn', ρ', H', out, g1, g2, h2.trans g3, g4⟩
theorem ACalls.leH {P : Program} {f : FuncId} {args : List AV} {H H' : Heap} {Q : CQ} (hH : LeH H H') (h : ACalls P f args H' Q) : ACalls P f args H Q := by
  intro sn ρ w vs hR hv
  obtain ⟨h1, h2⟩ := hR.le hH
  refine (h sn ρ w vs h1 hv).mono ?_
  rintro e w' ⟨sn', ρ', H', out, g1, g2, g3, g4⟩
  exact ⟨sn', ρ', H', out, g1, g2, h2.trans g3, g4⟩
theorem placed_c (k : Kn) (pid : Nat) (pc : Pc) (y : Sy) (hp : k.procs[pid]? = some pc) (hs : pc.s.ok) (hlo : 0 ≤ y.at_) (hsz : 0 ≤ y.size) (hhi : y.at_ + y.size ≤ 4096) (hpid : pid ≤ 9223372036854775807) :
    ACalls Tryz.prog 51 [k.av, iv pid, .agg y.row] [] (fun o H => o = .ret (.view false 6 ((placedL pc y pid).map Pb.row)) ∧ H = []) := by
  refine ACalls.up ?_
  refine ACalls.introR (n := 61) Tryz.func51 rfl (by kernel_rfl) rfl ?_
  refine FWp.split (FWp.step [] rfl (by kernel_rfl) ?_)
  have hpr : (k.procs.map Pc.row)[pid]? = some pc.row := by rw [List.getElem?_map, hp]; rfl
  simp only [go_sem,Kn.av,Kn.row,Sy.row]
  refine FWp.split (FWp.step [] rfl (by kernel_rfl) ?_)
  have hpb : (0 : Int) ≤ pid ∧ (pid : Int) < ((k.procs.map Pc.row).length : Int) := by
    have := (List.getElem?_eq_some_iff.1 hpr).1
    omega
  simp only [go_sem,hpr,hpb,Pc.row]
  refine FWp.split (FWp.step [] rfl (by kernel_rfl) ?_)
  simp only [go_sem]
  refine FWp.split (FWp.step [] rfl (by kernel_rfl) ?_)
  simp only [go_sem]
  refine FWp.split (FWp.split (FWp.step [] rfl (by kernel_rfl) ?_))
  simp only [go_sem]
  refine rK_use (Go.AM.enters_of Tryz.func75 rfl (by decide)) (ACalls.freshL (v' := .func (.func 95) [] [.ptr 9 0 0, .ptr 8 0 0]) (instrs_c pc.s y) rfl (by simp [Blk.lt, ltL, AV.lt, Sy.row]) rfl) ?_
  simp only [go_sem]
  refine FWp.wk (s' := (plS.put 6 (.view true 0 [])).put 23 (.func (.func 95) [] [.ptr 9 0 0, .ptr 8 0 0])) (Wk.slots' rfl (by simp [wkS, Ch.get, plS])) ?_
  refine FWp.range plS rfl (by kernel_rfl) rfl (Go.AM.enters_of Tryz.func95 rfl (by decide)) (by simp [wkS, Ch.get, plS]) (fun f => ?_)
  generalize hlb : LB f #[24, 25] _ _ LoopState.ready none 61 plS = lb
  refine ACalls.ghost (.rows 6 []) (ACalls.ghost (.rows 6 []) (ACalls.ghost (.rows 6 []) ?_))
  refine ACalls.leH (H' := plH k pid y pc lb 0 0 1 0 2 0 [.rows 6 [], .rows 6 [], .rows 6 []]) ?_ ?_
  · have e : ∀ q : Nat, LeB (.rows 1 [[.view true 0 []]]) (.rows 1 [[.sl q 0 0 none]]) := fun q => .rows 1 (.cons (.cons (.sl0 _ _ _) .nil) .nil)
    exact .cons (.refl _) (.cons (.refl _) (.cons (.refl _) (.cons (.refl _) (.cons (e _) (.cons (e _) (.cons (e _) (.cons (.refl _) (.cons (.refl _) (.cons (.refl _) (.cons (.refl _) (LeH.refl _)))))))))))
  refine ACalls.mono (ins1_c pc.s hs y hlo hsz hhi 10 9 8 (fun i H => ∃ T pe pr pa, H = plH k pid y pc lb pe (((insL pc.s y).take i).flatMap (entP pc y pid)).length pr (((insL pc.s y).take i).flatMap (retP pc y pid)).length pa (((insL pc.s y).take i).map (allP pc y pid)).length T ∧
      plT T pe pr pa (((insL pc.s y).take i).flatMap (entP pc y pid)) (((insL pc.s y).take i).flatMap (retP pc y pid)) (((insL pc.s y).take i).map (allP pc y pid))) _ ?_ ?_ ?_ ?_) ?_
  · exact ⟨_, 0, 1, 2, rfl, ⟨by simp [Blk.lt], rfl, rfl, rfl, by decide, by decide, by decide⟩⟩
  · rintro i H ⟨T, pe, pr, pa, rfl, _⟩
    rfl
  · rintro i H ⟨T, pe, pr, pa, rfl, _⟩
    rfl
  · rintro i a x H ⟨T, pe, pr, pa, rfl, hT⟩ hi
    have ht : (insL pc.s y).take (i + 1) = (insL pc.s y).take i ++ [(a, x)] := by rw [List.take_add_one, hi]; rfl
    rw [ht, List.flatMap_append, List.flatMap_append, List.map_append]
    simp only [List.flatMap_singleton, List.map_cons, List.map_nil]
    have hil := (List.getElem?_eq_some_iff.1 hi).1
    have hlen : (insL pc.s y).length ≤ y.size.toNat := insAt_len
    have hmem := insAt_mem (List.mem_of_getElem? hi)
    have htl : ((insL pc.s y).take i).length ≤ 4096 := by rw [List.length_take]; omega
    have hEl : (((insL pc.s y).take i).flatMap (entP pc y pid)).length ≤ 4096 := Nat.le_trans (ent_len _) htl
    have hRl : (((insL pc.s y).take i).flatMap (retP pc y pid)).length ≤ 4096 := Nat.le_trans (ret_len _) htl
    have hAl : (((insL pc.s y).take i).map (allP pc y pid)).length ≤ 4096 := by rw [List.length_map]; exact htl
    simp only at hmem
    generalize ((insL pc.s y).take i).flatMap (entP pc y pid) = E at *
    generalize ((insL pc.s y).take i).flatMap (retP pc y pid) = R at *
    generalize ((insL pc.s y).take i).map (allP pc y pid) = A at *
    subst hlb
    refine RYield.intro [9, 11] rfl (by kernel_rfl) (by kernel_rfl) (by kernel_rfl) ?_
    have hT := hT.app (x := .rows 4 [x.cells]) (by simp [Blk.lt, ltL, AV.lt, Ins.cells])
    simp only [plH, List.cons_append]
    generalize T ++ [Blk.rows 4 [x.cells]] = T at *
    simp only [go_sem,Ins.av,Ins.cells,putsCh,plS,fun b : Blk => show (T ++ [b])[T.length]? = some b by simp,fun x z : Blk => show (T ++ [x]).set T.length z = T ++ [z] by simp]
    refine ⟨_, rfl, ?_⟩
    have hT := hT.app (x := .rows 4 [x.cells]) (by simp [Blk.lt, ltL, AV.lt, Ins.cells])
    have hq : (T ++ [Blk.rows 4 [x.cells]])[T.length]? = some (.rows 4 [x.cells]) := by simp
    simp only [Ins.cells] at hT hq
    generalize T ++ [Blk.rows 4 [[iv x.op, iv x.a, iv x.b, iv x.imm]]] = T2 at *
    generalize T.length = q at *
    generalize hlb2 : LB f #[24, 25] _ _ LoopState.busy none 61 _ = lbB
    have hb2 : lbB.lt 8 := by rw [← hlb2]; rfl
    refine seq_cut (fun u : Heap × Nat => ((plS.put 12 (iv a)).put 13 (.ptr (q + 1 + 1 + 1 + 1 + 1 + 1 + 1 + 1 + 1 + 1 + 1) 0 0))) (fun u => plH k pid y pc lbB u.2 (E ++ entP pc y pid (a, x)).length pr R.length pa A.length u.1)
      (fun u => plT u.1 u.2 pr pa (E ++ entP pc y pid (a, x)) R A ∧ u.1[q]? = some (.rows 4 [[iv x.op, iv x.a, iv x.b, iv x.imm]])) (by kernel_rfl) ?_ ?_
    · intro K hK
      simp only [go_sem,Sy.row]
      refine condD_dec (fun h1 => ?_) (fun h1 => ?_)
      · refine draw [.rd 0 1, .qu 0 0, .qu 0 0, .rd 0 0, .mn 0, .mn 1, .mn 2] (by kernel_rfl) (by kernel_rfl) ?_
        simp only [go_sem]
        obtain ⟨pb, hpb⟩ : ∃ pb, pb = pbAt pc y pid sEntry a := ⟨_, rfl⟩
        refine ⟨pb.av, ⟨(Go.AM.enters_of Tryz.func74 rfl (by decide)), ?_⟩, trivial, ?_⟩
        · rw [hpb]
          exact at1_c pc y pid sEntry a _ (plH_lt hT.lt (List.getElem?_eq_some_iff.1 hT.e).1 (List.getElem?_eq_some_iff.1 hT.r).1 (List.getElem?_eq_some_iff.1 hT.a).1 hb2) rfl rfl rfl
        have q1 : ∀ x, (T2 ++ [x])[pe]? = some (.rows 6 (E.map Pb.row)) := fun x => tl_app hT.e
        have q2 : E.length + 1 ≤ 68719476736 := by omega
        have q3 : ∀ x, (T2 ++ [x])[T2.length]? = some x := fun x => by simp
        have q4 : (E.map Pb.row).take E.length = E.map Pb.row := List.take_of_length_le (by simp)
        have q5 : ∀ x, (T2 ++ [x]).length = T2.length + 1 := fun x => by simp
        simp only [go_sem,Pb.av,Pb.row,q1,q2,q3,q4,q5,List.length_map]
        have e : entP pc y pid (a, x) = [pb] := by rw [entP, if_pos h1, hpb]
        rw [e] at hK
        refine hK (_, T2.length + 1) _ _ ⟨hT.newE pb, ?_⟩ ?_
        · exact tl_at hq (plT.ne hT.e hq)
        · exact Wk.slots' (by simp [plH, pbRows, Pb.row, Sy.row]) (by simp [wkS, Ch.get, plS])
      · have e : entP pc y pid (a, x) = [] := by rw [entP, if_neg h1]
        simp only [go_sem]
        refine hK (T2, pe) _ _ ⟨by rw [e, List.append_nil]; exact hT, hq⟩ ?_
        rw [e, List.append_nil]
        exact Wk.slots' rfl (by simp [wkS, Ch.get, plS])
    rintro ⟨T3, pe⟩ ⟨hT, hq⟩
    simp only at hT hq
    generalize E ++ entP pc y pid (a, x) = E at *
    refine seq_cut (fun u : Heap × Nat => ((plS.put 12 (iv a)).put 13 (.ptr (q + 1 + 1 + 1 + 1 + 1 + 1 + 1 + 1 + 1 + 1 + 1) 0 0))) (fun u => plH k pid y pc lbB pe E.length u.2 (R ++ retP pc y pid (a, x)).length pa A.length u.1)
      (fun u => plT u.1 pe u.2 pa E (R ++ retP pc y pid (a, x)) A ∧ u.1[q]? = some (.rows 4 [[iv x.op, iv x.a, iv x.b, iv x.imm]])) (by kernel_rfl) ?_ ?_
    · intro K hK
      simp only [plH, plS]
      simp only [go_sem,Sy.row,hq]
      refine condD_dec (fun h1 => ?_) (fun h1 => ?_)
      · refine draw [.rd 0 1, .qu 0 0, .qu 0 0, .rd 0 0, .mn 0, .mn 1, .mn 2] (by kernel_rfl) (by kernel_rfl) ?_
        simp only [go_sem]
        obtain ⟨pb, hpb⟩ : ∃ pb, pb = pbAt pc y pid sReturn a := ⟨_, rfl⟩
        refine ⟨pb.av, ⟨(Go.AM.enters_of Tryz.func74 rfl (by decide)), ?_⟩, trivial, ?_⟩
        · rw [hpb]
          exact at1_c pc y pid sReturn a _ (plH_lt hT.lt (List.getElem?_eq_some_iff.1 hT.e).1 (List.getElem?_eq_some_iff.1 hT.r).1 (List.getElem?_eq_some_iff.1 hT.a).1 hb2) rfl rfl rfl
        have q1 : ∀ x, (T3 ++ [x])[pr]? = some (.rows 6 (R.map Pb.row)) := fun x => tl_app hT.r
        have q2 : R.length + 1 ≤ 68719476736 := by omega
        have q3 : ∀ x, (T3 ++ [x])[T3.length]? = some x := fun x => by simp
        have q4 : (R.map Pb.row).take R.length = R.map Pb.row := List.take_of_length_le (by simp)
        have q5 : ∀ x, (T3 ++ [x]).length = T3.length + 1 := fun x => by simp
        simp only [go_sem,Pb.av,Pb.row,q1,q2,q3,q4,q5,List.length_map]
        have e : retP pc y pid (a, x) = [pb] := by rw [retP, if_pos h1, hpb]
        rw [e] at hK
        refine hK (_, T3.length + 1) _ _ ⟨hT.newR pb, ?_⟩ ?_
        · exact tl_at hq (plT.ne hT.r hq)
        · exact Wk.slots' (by simp [plH, pbRows, Pb.row, Sy.row]) (by simp [wkS, Ch.get, plS])
      · have e : retP pc y pid (a, x) = [] := by rw [retP, if_neg h1]
        simp only [go_sem]
        refine hK (T3, pr) _ _ ⟨by rw [e, List.append_nil]; exact hT, hq⟩ ?_
        rw [e, List.append_nil]
        exact Wk.slots' rfl (by simp [wkS, Ch.get, plS])
    rintro ⟨T4, pr⟩ ⟨hT, hq⟩
    simp only at hT hq
    generalize R ++ retP pc y pid (a, x) = R at *
    simp only [plH, plS]
    simp only [go_sem,Sy.row]
    refine draw [.rd 0 1, .qu 0 0, .qu 0 0, .qu 0 0, .qu 0 0, .qu 0 0, .qu 0 0, .qu 0 0, .rd 0 0, .mn 0, .mn 1, .mn 2] (by kernel_rfl) (by kernel_rfl) ?_
    have e1 : iw .i64 (a - y.at_) = ((a - y.at_).toNat : Int) := by rw [iw64] <;> omega
    simp only [go_sem,Sy.row,e1]
    refine y_call (Go.AM.enters_of Tryz.func76 rfl (by decide)) (fun _ => ACalls.pure_use (fmt_c (a - y.at_).toNat (by omega)) rfl rfl) ?_
    simp only [go_sem]
    obtain ⟨pb, hpb⟩ : ∃ pb, pb = allP pc y pid (a, x) := ⟨_, rfl⟩
    refine ⟨pb.av, ⟨(Go.AM.enters_of Tryz.func74 rfl (by decide)), ?_⟩, trivial, ?_⟩
    · rw [hpb]
      exact at1_c pc y pid _ a _ (plH_lt hT.lt (List.getElem?_eq_some_iff.1 hT.e).1 (List.getElem?_eq_some_iff.1 hT.r).1 (List.getElem?_eq_some_iff.1 hT.a).1 hb2) rfl rfl rfl
    have q1 : ∀ x, (T4 ++ [x])[pa]? = some (.rows 6 (A.map Pb.row)) := fun x => tl_app hT.a
    have q2 : A.length + 1 ≤ 68719476736 := by omega
    have q3 : ∀ x, (T4 ++ [x])[T4.length]? = some x := fun x => by simp
    have q4 : (A.map Pb.row).take A.length = A.map Pb.row := List.take_of_length_le (by simp)
    have q5 : ∀ x, (T4 ++ [x]).length = T4.length + 1 := fun x => by simp
    subst hlb2
    simp only [go_sem,Pb.av,Pb.row,q1,q2,q3,q4,q5,List.length_map]
    refine ⟨plS, _, Wk.slots' rfl (by simp [wkS, Ch.get, plS]), rfl, ?_⟩
    refine ⟨_, pe, pr, T4.length + 1, ?_, hpb ▸ hT.newA pb⟩
    simp [hpb, plH, pbRows, Pb.row, Sy.row, plS, pbAt]
  · rintro o H ⟨rfl, H1, g, ⟨T, pe, pr, pa, rfl, hT⟩, rfl⟩
    have ht : (insL pc.s y).take (insL pc.s y).length = insL pc.s y := List.take_of_length_le (Nat.le_refl _)
    simp only [ht] at hT ⊢
    subst hlb
    have hlen : (insL pc.s y).length ≤ y.size.toNat := insAt_len
    have hEl : ((insL pc.s y).flatMap (entP pc y pid)).length ≤ 4096 := Nat.le_trans (ent_len _) (by omega)
    have hRl : ((insL pc.s y).flatMap (retP pc y pid)).length ≤ 4096 := Nat.le_trans (ret_len _) (by omega)
    have hAl : ((insL pc.s y).map (allP pc y pid)).length ≤ 4096 := by rw [List.length_map]; omega
    unfold placedL
    generalize (insL pc.s y).flatMap (entP pc y pid) = E at *
    generalize (insL pc.s y).flatMap (retP pc y pid) = R at *
    generalize (insL pc.s y).map (allP pc y pid) = A at *
    refine ⟨.ready, none, _, rfl, (by intro h; cases h), ?_⟩
    refine ⟨((Ch.nil.put 8 (.ptr 0 0 0)).put 9 (.ptr 1 0 0)).put 10 (.ptr 2 0 0), [.rows 1 [[.view false 6 (E.map Pb.row)]], .rows 1 [[.view false 6 (R.map Pb.row)]], .rows 1 [[.view false 6 (A.map Pb.row)]], .dead, .dead, .dead], ?_, fun dd => ?_⟩
    · refine (Wk.pick (s' := ((Ch.nil.put 8 (.ptr 0 0 0)).put 9 (.ptr 1 0 0)).put 10 (.ptr 2 0 0)) (H' := [.rows 1 [[.sl 3 0 E.length none]], .rows 1 [[.sl 4 0 R.length none]], .rows 1 [[.sl 5 0 A.length none]], pbRows E, pbRows R, pbRows A]) [4, 5, 6, pe + 11, pr + 11, pa + 11] ?_ rfl ?_ ?_).trans ?_
      · have h1 := hT.er; have h2 := hT.ea; have h3 := hT.ra
        simp; omega
      · exact plH_pick hT
      · simp [wkP, Ch.get, AV.ren, pi, plS]
      · have tk : ∀ L : List Pb, (L.map Pb.row).take L.length = L.map Pb.row := fun L => List.take_of_length_le (by simp)
        refine Wk.trans (Wk.fz (r := 3) (sz := 6) (xs := E.map Pb.row) rfl (pb_pure E) ?_ (by simp [chOk, AV.fzOk])) ?_
        · intro b hb
          simp only [List.set_cons_zero, List.set_cons_succ, List.mem_cons, List.not_mem_nil, or_false] at hb
          rcases hb with rfl | rfl | rfl | rfl | rfl | rfl <;> first | exact pb_fzOk _ | simp [Blk.fzOk, fzOkL, AV.fzOk]
        simp only [List.set_cons_zero, List.set_cons_succ, List.map_cons, List.map_nil, pb_fz]
        simp [Ch.fz, AV.fz, fzL, Blk.fz, tk]
        refine Wk.trans (Wk.fz (r := 4) (sz := 6) (xs := R.map Pb.row) rfl (pb_pure R) ?_ (by simp [chOk, AV.fzOk])) ?_
        · intro b hb
          simp only [List.set_cons_zero, List.set_cons_succ, List.mem_cons, List.not_mem_nil, or_false] at hb
          rcases hb with rfl | rfl | rfl | rfl | rfl | rfl <;> first | exact pb_fzOk _ | simp [Blk.fzOk, fzOkL, AV.fzOk]
        simp only [List.set_cons_zero, List.set_cons_succ, List.map_cons, List.map_nil, pb_fz]
        simp [Ch.fz, AV.fz, fzL, Blk.fz, tk]
        refine Wk.trans (Wk.fz (r := 5) (sz := 6) (xs := A.map Pb.row) rfl (pb_pure A) ?_ (by simp [chOk, AV.fzOk])) ?_
        · intro b hb
          simp only [List.set_cons_zero, List.set_cons_succ, List.mem_cons, List.not_mem_nil, or_false] at hb
          rcases hb with rfl | rfl | rfl | rfl | rfl | rfl <;> first | exact pb_fzOk _ | simp [Blk.fzOk, fzOkL, AV.fzOk]
        simp only [List.set_cons_zero, List.set_cons_succ, List.map_cons, List.map_nil, pb_fz]
        simp [Ch.fz, AV.fz, fzL, Blk.fz, tk]
        exact Wk.refl _ _ _ _
    · simp only [go_sem]
      rw [rK_call]
      refine ⟨(Go.AM.enters_of Tryz.func77 rfl (by decide)), ?_⟩
      refine ACalls.pre_fz 6 (sz := 1) (xs := [[.view false 6 (E.map Pb.row)], [.view false 6 (R.map Pb.row)], [.view false 6 (A.map Pb.row)]]) rfl (by simp [AV.lt]) (by simp [fzOkL, AV.fzOk]) (by simp [Blk.fzOk, fzOkL, AV.fzOk]) ?_
      simp only [fzL, AV.fz, Blk.fz, List.set_cons_zero, List.set_cons_succ, List.map_cons, List.map_nil, if_pos]
      refine (ACalls.pure_use (concat_c [E.map Pb.row, R.map Pb.row, A.map Pb.row] (by simp) (by simp [sumL]; omega) ?_) rfl rfl).mono ?_
      · intro row hr
        simp only [List.flatten_cons, List.flatten_nil, List.append_nil, ← List.map_append] at hr
        exact rows_lt (fun _ => rfl) _ row hr
      rintro o H2 ⟨rfl, rfl⟩
      simp only [go_sem]
      refine .gc 0 (Nat.le_refl _) (Nat.zero_le _) rfl (by simp) (.done ⟨?_, rfl⟩)
      simp [Ch.get]
end Go.Proofs.YtigmnlnomhjecaaGreatDoor
set_option maxRecDepth 100000
set_option linter.unusedVariables false
set_option linter.unusedSimpArgs false
namespace Go.Proofs.YtigmnlnomhjecaaGreatDoor
open Go.AM
open Go.Glob (Bs Dsc)
def nw (p f n : Bs) : Pb := ⟨⟨p, [], f, n⟩, -1, -1⟩
theorem nowhere_c (p f n : Bs) : ACalls Tryz.prog 49 [Sv p, Sv f, Sv n] [] (fun o H => o = .ret (nw p f n).av ∧ H = []) := by
  refine ACalls.up ?_
  refine ACalls.intro (cs := []) (n := 12) Tryz.func49 rfl rfl rfl (by kernel_rfl) rfl ?_
  simp only [go_sem]
  exact finv rfl ⟨rfl, rfl⟩ _
def sTapline : Bs := [116, 97, 112, 108, 105, 110, 101]
def sBegin : Bs := [66, 69, 71, 73, 78]
def sEnd : Bs := [69, 78, 68]
def sSyscall : Bs := [115, 121, 115, 99, 97, 108, 108]
def sProfile : Bs := [112, 114, 111, 102, 105, 108, 101]
def sTick : Bs := [116, 105, 99, 107]
def callN : List Bs := [[101, 120, 105, 116], [112, 105, 100], [116, 105, 100], [121, 105, 101, 108, 100], [115, 112, 97, 119, 110], [112, 114, 105], [115, 108, 101, 101, 112], [119, 97, 107, 101], [114, 101, 97, 100], [119, 114, 105, 116, 101], [116, 105, 109, 101], [112, 114, 111, 116, 101, 99, 116], [107, 105, 108, 108]]
def sSched : Bs := [115, 99, 104, 101, 100]
def sIo : Bs := [105, 111]
def sProc : Bs := [112, 114, 111, 99]
def othN : List (Bs × Bs × Int) := [(sSched, [111, 110, 45, 99, 112, 117], 4), (sSched, [111, 102, 102, 45, 99, 112, 117], 5), (sSched, [101, 110, 113, 117, 101, 117, 101], 6), (sSched, [119, 97, 107, 101, 117, 112], 7), (sIo, [115, 116, 97, 114, 116], 8), (sIo, [100, 111, 110, 101], 9), (sProc, [115, 112, 97, 119, 110], 11), (sProc, [101, 120, 105, 116], 12), (sProc, [102, 97, 117, 108, 116], 13)]
def othR (x : Bs × Bs × Int) : List AV := [Sv x.1, Sv x.2.1, iv x.2.2]
theorem gCalls : gAV 0 = .cptr (callN.map Sv) 0 := rfl
theorem gOthers : gAV 1 = .cptr (othN.map othR).flatten 0 := rfl
def callP (s : Bs) : List Pb := [nw sSyscall s sEntry, nw sSyscall s sReturn]
def othP (x : Bs × Bs × Int) : Pb := nw x.1 [] x.2.1
def clkP (c : Nat) : Pb := nw sProfile (Glob.dig c) sTick
def head0 : List Pb := [nw sTapline [] sBegin, nw sTapline [] sEnd]
def headL (n : Nat) : List Pb := head0 ++ callN.flatMap callP ++ othN.map othP ++ (List.range n).map clkP
def symL (pc : Pc) (pid : Nat) (l : List Sy) : List Pb := l.flatMap fun y => placedL pc y pid
def procL (l : List Pc) (pid : Nat) : List Pb := match l with
  | [] => []
  | pc :: l => symL pc pid pc.syms ++ procL l (pid + 1)
def listL (k : Kn) : List Pb := headL k.clocks.length ++ procL k.procs 0
theorem callF_len : ∀ l : List Bs, (l.flatMap callP).length = 2 * l.length
  | [] => rfl
  | s :: l => by
    rw [List.flatMap_cons, List.length_append, callF_len l, List.length_cons]
    simp [callP]; omega
theorem pbr_lt (l : List Pb) (m : Nat) : (pbRows l).lt m := blt0 (AM.rows_lt (fun _ => rfl) _)
theorem hK_appc {P : Program} {ops : Array Oper} {rest : List Oper} {Q : XQ} {s : Ch} {H l : Heap} {b : Blk} : hK P ops rest Q s (H ++ b :: l) = cops P ops rest Q s (H ++ b :: l) := id rfl
theorem othAt : ∀ (i : Nat) (h : i < 9), (((othN.map othR).flatten).drop (i * 3)).take 3 = othR (othN[i]'h)
  | 0, _ => rfl
  | 1, _ => rfl
  | 2, _ => rfl
  | 3, _ => rfl
  | 4, _ => rfl
  | 5, _ => rfl
  | 6, _ => rfl
  | 7, _ => rfl
  | 8, _ => rfl
theorem Wk.fzLast {B n : Nat} {s : Ch} {H0 : Heap} {l : List Pb} (hlt : ∀ b ∈ H0, b.lt H0.length) (hs : chOk H0.length l.length s) : Wk B n s (H0 ++ [pbRows l]) (s.fz H0.length 6 (l.map Pb.row)) (H0 ++ [.dead]) := by
  have e : (H0 ++ [pbRows l]).set H0.length .dead = H0 ++ [.dead] := by
    rw [List.set_append_right _ _ (Nat.le_refl _)]; simp
  have := Wk.fz (B := B) (n := n) (r := H0.length) (sz := 6) (xs := l.map Pb.row) (s := s) (H := H0 ++ [pbRows l]) (by simp [pbRows]) (pb_pure l) (fun b hb => by
    rw [e] at hb
    rcases List.mem_append.1 hb with hb | hb
    · exact bfzOk_above (Nat.le_refl _) (hlt b hb)
    · rw [List.mem_singleton.1 hb]; trivial) (by rw [List.length_map]; exact hs)
  rw [e, List.map_append] at this
  have e2 : H0.map (Blk.fz H0.length 6 (l.map Pb.row)) = H0 := by
    conv => rhs; rw [← List.map_id H0]
    exact List.map_congr_left fun b hb => bfz_above (Nat.le_refl _) (hlt b hb)
  rw [e2] at this
  exact this
theorem kOk_procs {k : Kn} (h : kOk k = true) : k.procs.length ≤ 8 ∧ k.clocks.length ≤ 4 ∧ ∀ p ∈ k.procs, pcOk p = true := by
  simp only [kOk, Bool.and_eq_true, decide_eq_true_eq, List.all_eq_true] at h
  obtain ⟨⟨⟨⟨⟨⟨⟨⟨h1, h2⟩, h3⟩, h4⟩, h5⟩, h6⟩, h7⟩, h8⟩, h9⟩ := h
  refine ⟨h1.2, ?_, h8⟩
  rw [h4]
  rw [S.valid] at h2
  split at h2
  · cases h2
  · omega
theorem symGo_mem {size : Int} : ∀ {l : List Sy} {seen : List Bs}, symGo size seen l = true → ∀ y ∈ l, 0 ≤ y.at_ ∧ 1 ≤ y.size ∧ y.at_ + y.size ≤ size
  | [], _, _, y, hy => by simp at hy
  | x :: l, seen, h, y, hy => by
    simp only [symGo, symOk, Bool.and_eq_true, decide_eq_true_eq] at h
    obtain ⟨⟨⟨⟨⟨⟨h1, h2⟩, h3⟩, h4⟩, h5⟩, h6⟩, h7⟩ := h
    rcases List.mem_cons.1 hy with rfl | hy
    · have : nextAt size l ≤ size := by
        cases l with
        | nil => exact Int.le_refl _
        | cons z l => rw [nextAt]; split <;> omega
      exact ⟨h2, h3, by omega⟩
    · exact symGo_mem h7 y hy
theorem pcOk_sym {pc : Pc} (h : pcOk pc = true) : pc.s.ok ∧ pc.syms.length ≤ 32 ∧ ∀ y ∈ pc.syms, 0 ≤ y.at_ ∧ 0 ≤ y.size ∧ y.at_ + y.size ≤ 4096 := by
  simp only [pcOk, symsOk, Bool.and_eq_true, decide_eq_true_eq] at h
  obtain ⟨⟨⟨⟨h1, h2⟩, h3⟩, h4, h5⟩, h6⟩ := h
  refine ⟨h3, h4, fun y hy => ?_⟩
  have := symGo_mem h5 y hy
  have h7 := h3.len
  have h8 := h3.p32
  omega
theorem probes1_c (k : Kn) (hk : kOk k = true) (hz : k.Sz) (r qk : Nat) (I : Nat → Heap → Prop) (H0 : Heap) (hrl : r < H0.length) (hql : qk < H0.length) (h0 : I 0 H0) (hlt : ∀ b ∈ H0, b.lt H0.length) (hkb : ∀ i H, I i H → H[qk]? = some (.rows 8 [k.row])) (hd : ∀ i H, I i H → I i (H ++ [.dead]))
    (hy : ∀ i pb H, I i H → (listL k)[i]? = some pb → i ≤ 2000 → RYield Tryz.prog r [pb.av] (H ++ [.rows 6 [pb.row]]) (fun o H' => o = .ret (.bool (decide (i < 2000))) ∧ I (i + 1) H')) :
    ACalls Tryz.prog 48 [.yfn r, .ptr qk 0 0] H0 (fun o H => o = .ret (.tuple []) ∧ ∃ H1 g, I (min (listL k).length 2001) H1 ∧ H = H1 ++ g) := by
  refine ACalls.up ?_
  refine ACalls.intro (cs := [1,6,11,16,19,21,30]) (n := 100) Tryz.func48 rfl rfl rfl (by kernel_rfl) rfl ?_
  have q1 : ∀ (b : Blk) (l : Heap), (H0 ++ b :: l)[H0.length]? = some b := fun b l => by simp
  have q2 : ∀ (b c : Blk) (l : Heap), (H0 ++ b :: c :: l)[H0.length + 1]? = some c := fun b c l => by
    rw [List.getElem?_append_right (by omega)]; simp
  have q3 : ∀ (b c d : Blk) (l : Heap), (H0 ++ b :: c :: d :: l)[H0.length + 2]? = some d := fun b c d l => by
    rw [List.getElem?_append_right (by omega)]; simp
  have q4 : ∀ (b d : Blk) (l : Heap), (H0 ++ b :: l).set H0.length d = H0 ++ d :: l := fun b d l => by
    rw [List.set_append_right _ _ (Nat.le_refl _)]; simp
  have q5 : ∀ (b c d : Blk) (l : Heap), (H0 ++ b :: c :: l).set (H0.length + 1) d = H0 ++ b :: d :: l := fun b c d l => by
    rw [List.set_append_right _ _ (by omega)]; simp
  have l1 : ∀ b : Blk, (H0 ++ [b]).length = H0.length + 1 := fun b => by simp
  have l2 : ∀ b c : Blk, (H0 ++ [b, c]).length = H0.length + 2 := fun b c => by simp
  have l3 : ∀ b c d : Blk, (H0 ++ [b, c, d]).length = H0.length + 3 := fun b c d => by simp
  refine seq_cut (fun _ : Unit => ((Ch.nil.put 0 (.yfn r)).put 1 (.ptr qk 0 0)).put 3 (.sl H0.length 0 2 none)) (fun _ => H0 ++ [pbRows head0]) (fun _ => True) (by kernel_rfl) ?_ ?_
  · intro K hK
    simp only [go_sem]
    refine rK_use (Go.AM.enters_of Tryz.func49 rfl (by decide)) (ACalls.pure_use (nowhere_c sTapline [] sBegin) rfl rfl) ?_
    simp only [go_sem,Pb.av,Pb.row]
    refine rK_use (Go.AM.enters_of Tryz.func49 rfl (by decide)) (ACalls.pure_use (nowhere_c sTapline [] sEnd) rfl rfl) ?_
    simp only [go_sem,Pb.av,Pb.row,hK_appc]
    refine hK () _ _ trivial ?_
    refine (Wk.slots' (s' := ((Ch.nil.put 0 (.yfn r)).put 1 (.ptr qk 0 0)).put 3 (.sl H0.length 0 2 (some 2))) rfl (by simp [wkS, Ch.get])).trans (Wk.le ?_ (LeH.refl _))
    exact .cons _ (LeC.refl _) (.cap _ _ _ _)
  rintro _ _
  refine seq_cut (fun _ : Unit => ((Ch.nil.put 0 (.yfn r)).put 1 (.ptr qk 0 0)).put 3 (.sl H0.length 0 28 none)) (fun _ => H0 ++ [pbRows (head0 ++ callN.flatMap callP)]) (fun _ => True) (by kernel_rfl) ?_ ?_
  · intro K hK
    simp only [go_sem,gCalls,List.length_map]
    refine loop_fam (fun i : Nat => ((((Ch.nil.put 0 (.yfn r)).put 1 (.ptr qk 0 0)).put 3 (.sl H0.length 0 (2 + 2 * i) none)).put 20 (.agg (callN.map Sv))).put 21 (iv i)) (fun i => H0 ++ [pbRows (head0 ++ (callN.take i).flatMap callP)]) (fun i => 13 - i) (fun i => i ≤ 13) 0 (by kernel_rfl) (Nat.zero_le _) ?_ ?_
    · refine Wk.slots' (by simp) ?_
      simp [wkS, Ch.get, Ch.put?, cev, AV.ofV, callN]
    rintro i hi K2 hK2
    simp only [go_sem]
    refine condD_dec (fun hc => ?_) (fun hc => ?_)
    · have hil : i < callN.length := by rw [show callN.length = 13 from rfl]; omega
      have h1 : (callN.map Sv)[i]? = some (Sv callN[i]) := by rw [List.getElem?_map, List.getElem?_eq_getElem hil]; rfl
      have h2 : (0 : Int) ≤ i ∧ (i : Int) < 13 := by omega
      simp only [go_sem,h1,h2]
      refine rK_use (Go.AM.enters_of Tryz.func49 rfl (by decide)) (ACalls.pure_use (nowhere_c sSyscall callN[i] sEntry) rfl rfl) ?_
      simp only [go_sem,Pb.av,Pb.row]
      refine rK_use (Go.AM.enters_of Tryz.func49 rfl (by decide)) (ACalls.pure_use (nowhere_c sSyscall callN[i] sReturn) rfl rfl) ?_
      have h3 : (callN.take (i + 1)).flatMap callP = (callN.take i).flatMap callP ++ callP callN[i] := by
        rw [List.take_add_one, List.getElem?_eq_getElem hil, List.flatMap_append]; simp
      obtain ⟨acc, hacc⟩ : ∃ acc, acc = head0 ++ (callN.take i).flatMap callP := ⟨_, rfl⟩
      have hal : acc.length = 2 + 2 * i := by
        rw [hacc, List.length_append, callF_len, List.length_take]
        simp only [head0, List.length_cons, List.length_nil]
        omega
      rw [← hacc]
      have e2 : iw .i64 ((i : Int) + 1) = ((i + 1 : Nat) : Int) := by rw [iw64] <;> omega
      have g3 : (acc.map Pb.row).take (2 + 2 * i) = acc.map Pb.row := List.take_of_length_le (by simp; omega)
      have g4 : 2 + 2 * i ≤ (acc.map Pb.row).length ∧ 2 + 2 * i + 2 ≤ 68719476736 := by rw [List.length_map]; omega
      simp only [go_sem,Pb.av,Pb.row,hK_appc,l1,l2,q1,q2,q4,g3,g4,e2,pbRows]
      refine hK2 (i + 1) _ _ (by omega) (by omega) ?_
      have ha : head0 ++ (callN.take (i + 1)).flatMap callP = acc ++ callP callN[i] := by rw [h3, hacc, List.append_assoc]
      rw [ha]
      refine Wk.push (A := H0) (b := pbRows (acc ++ callP callN[i])) (H0.length + 2) (by simp) ?_ (by omega) hlt (pbr_lt _ _) (Nat.le_refl _) ?_
      · rw [q3]; simp [pbRows, callP, Pb.row]
      · simp [wkP, Ch.get, AV.ren, pu_lt hrl, pu_lt hql, pu_eq]
        exact ⟨(renL_pure' rfl).symm, by omega⟩
    · simp only [go_sem]
      obtain rfl : i = 13 := by omega
      refine hK () _ _ trivial ?_
      refine Wk.slots' rfl ?_
      simp [wkS, Ch.get]
  rintro _ _
  obtain ⟨base, hbase⟩ : ∃ base, base = head0 ++ callN.flatMap callP := ⟨_, rfl⟩
  have hbl : base.length = 28 := by rw [hbase]; rfl
  rw [← hbase]
  refine seq_cut (fun _ : Unit => ((Ch.nil.put 0 (.yfn r)).put 1 (.ptr qk 0 0)).put 3 (.sl H0.length 0 37 none)) (fun _ => H0 ++ [pbRows (base ++ othN.map othP)]) (fun _ => True) (by kernel_rfl) ?_ ?_
  · intro K hK
    simp only [go_sem,gOthers]
    obtain ⟨V, hV⟩ : ∃ V, V = (othN.map othR).flatten := ⟨_, rfl⟩
    have hVl : V.length = 27 := by rw [hV]; rfl
    have hVlt : ltL 0 V = true := by rw [hV]; rfl
    rw [← hV]
    simp only [go_sem,hVl]
    refine loop_fam (fun i : Nat => ((((Ch.nil.put 0 (.yfn r)).put 1 (.ptr qk 0 0)).put 3 (.sl H0.length 0 (28 + i) none)).put 32 (.agg V)).put 33 (iv i)) (fun i => H0 ++ [pbRows (base ++ (othN.take i).map othP)]) (fun i => 9 - i) (fun i => i ≤ 9) 0 (by kernel_rfl) (Nat.zero_le _) ?_ ?_
    · refine Wk.slots' (by simp) ?_
      simp [wkS, Ch.get, Ch.put?, cev, AV.ofV]
      exact List.take_of_length_le (by omega)
    rintro i hi K2 hK2
    simp only [go_sem]
    refine condD_dec (fun hc => ?_) (fun hc => ?_)
    · have hil : i < othN.length := by rw [show othN.length = 9 from rfl]; omega
      have h2 : (0 : Int) ≤ i ∧ (i : Int) < 9 := by omega
      have h1 : (V.drop (i * 3)).take 3 = [Sv othN[i].1, Sv othN[i].2.1, iv othN[i].2.2] := by rw [hV]; exact othAt i hil
      have h3 : (othN.take (i + 1)).map othP = (othN.take i).map othP ++ [othP othN[i]] := by
        rw [List.take_add_one, List.getElem?_eq_getElem hil, List.map_append]; rfl
      obtain ⟨acc, hacc⟩ : ∃ acc, acc = base ++ (othN.take i).map othP := ⟨_, rfl⟩
      have hal : acc.length = 28 + i := by
        rw [hacc, List.length_append, List.length_map, List.length_take]
        omega
      rw [← hacc]
      have e2 : iw .i64 ((i : Int) + 1) = ((i + 1 : Nat) : Int) := by rw [iw64] <;> omega
      have g3 : (acc.map Pb.row).take (28 + i) = acc.map Pb.row := List.take_of_length_le (by simp; omega)
      have g4 : 28 + i ≤ (acc.map Pb.row).length ∧ 28 + i + 1 ≤ 68719476736 := by rw [List.length_map]; omega
      simp only [go_sem,h2,h1,hK_appc,l1,l2,q1,q2,q4,q5]
      refine rK_use (Go.AM.enters_of Tryz.func49 rfl (by decide)) (ACalls.pure_use (nowhere_c othN[i].1 [] othN[i].2.1) rfl rfl) ?_
      simp only [go_sem,Pb.av,Pb.row,hK_appc,l1,l2,l3,q1,q2,q3,q4,g3,g4,e2,pbRows]
      refine hK2 (i + 1) _ _ (by omega) (by omega) ?_
      have ha : base ++ (othN.take (i + 1)).map othP = acc ++ [othP othN[i]] := by rw [h3, hacc, List.append_assoc]
      rw [ha]
      refine Wk.push (A := H0) (b := pbRows (acc ++ [othP othN[i]])) (H0.length + 3) (by simp) ?_ (by omega) hlt (pbr_lt _ _) (Nat.le_refl _) ?_
      · rw [List.getElem?_append_right (by omega)]; simp [pbRows, othP, Pb.row]
      · simp [wkP, Ch.get, AV.ren, pu_lt hrl, pu_lt hql, pu_eq]
        exact ⟨(AV.agg.inj (ren_pure (x := .agg V) hVlt)).symm, by omega⟩
    · simp only [go_sem]
      obtain rfl : i = 9 := by omega
      refine hK () _ _ trivial ?_
      refine Wk.slots' rfl ?_
      simp [wkS, Ch.get]
  rintro _ _
  obtain ⟨base2, hbase2⟩ : ∃ base2, base2 = base ++ othN.map othP := ⟨_, rfl⟩
  have hbl2 : base2.length = 37 := by rw [hbase2, List.length_append, hbl]; rfl
  rw [← hbase2]
  have qk0 : ∀ l, (H0 ++ l)[qk]? = some (.rows 8 [k.row]) := fun l => by rw [List.getElem?_append_left hql, hkb 0 H0 h0]
  have hn4 : k.clocks.length ≤ 4 := (kOk_procs hk).2.1
  have hhead : base2 ++ (List.range k.clocks.length).map clkP = headL k.clocks.length := by rw [hbase2, hbase]; rfl
  have hhl : (headL k.clocks.length).length = 37 + k.clocks.length := by rw [← hhead, List.length_append, List.length_map, List.length_range, hbl2]
  refine seq_cut (fun _ : Unit => ((Ch.nil.put 0 (.yfn r)).put 1 (.ptr qk 0 0)).put 3 (.view false 6 ((headL k.clocks.length).map Pb.row))) (fun _ => H0 ++ [.dead]) (fun _ => True) (by kernel_rfl) ?_ ?_
  · intro K hK
    simp only [go_sem,qk0,Kn.row,List.length_map]
    refine loop_fam (fun i : Nat => ((((Ch.nil.put 0 (.yfn r)).put 1 (.ptr qk 0 0)).put 3 (.sl H0.length 0 (37 + i) none)).put 47 (iv k.clocks.length)).put 48 (iv i)) (fun i => H0 ++ [pbRows (base2 ++ (List.range i).map clkP)]) (fun i => k.clocks.length - i) (fun i => i ≤ k.clocks.length) 0 (by kernel_rfl) (Nat.zero_le _) ?_ ?_
    · refine Wk.slots' (by simp) ?_
      simp [wkS, Ch.get, Ch.put?, cev, AV.ofV]
    rintro i hi K2 hK2
    simp only [go_sem]
    refine condD_dec (fun hc => ?_) (fun hc => ?_)
    · have h3 : (List.range (i + 1)).map clkP = (List.range i).map clkP ++ [clkP i] := by rw [List.range_succ, List.map_append]; rfl
      obtain ⟨acc, hacc⟩ : ∃ acc, acc = base2 ++ (List.range i).map clkP := ⟨_, rfl⟩
      have hal : acc.length = 37 + i := by rw [hacc, List.length_append, List.length_map, List.length_range, hbl2]
      rw [← hacc]
      have e2 : iw .i64 ((i : Int) + 1) = ((i + 1 : Nat) : Int) := by rw [iw64] <;> omega
      have g3 : (acc.map Pb.row).take (37 + i) = acc.map Pb.row := List.take_of_length_le (by simp; omega)
      have g4 : 37 + i ≤ (acc.map Pb.row).length ∧ 37 + i + 1 ≤ 68719476736 := by rw [List.length_map]; omega
      simp only [go_sem]
      refine rK_use (Go.AM.enters_of Tryz.func50 rfl (by decide)) (ACalls.pure_use (itoa_c i (by omega)) rfl rfl) ?_
      simp only [go_sem]
      refine rK_use (Go.AM.enters_of Tryz.func49 rfl (by decide)) (ACalls.pure_use (nowhere_c sProfile (Glob.dig i) sTick) rfl rfl) ?_
      simp only [go_sem,Pb.av,Pb.row,hK_appc,l1,l2,l3,q1,q2,q3,q4,g3,g4,e2,pbRows]
      refine hK2 (i + 1) _ _ (by omega) (by omega) ?_
      have ha : base2 ++ (List.range (i + 1)).map clkP = acc ++ [clkP i] := by rw [h3, hacc, List.append_assoc]
      rw [ha]
      refine Wk.push (A := H0) (b := pbRows (acc ++ [clkP i])) (H0.length + 2) (by simp) ?_ (by omega) hlt (pbr_lt _ _) (Nat.le_refl _) ?_
      · rw [q3]; simp [pbRows, clkP, Pb.row]
      · simp [wkP, Ch.get, AV.ren, pu_lt hrl, pu_lt hql, pu_eq]
        omega
    · simp only [go_sem]
      obtain rfl : i = k.clocks.length := by omega
      refine hK () _ _ trivial ?_
      rw [hhead]
      refine (Wk.slots' (s' := ((Ch.nil.put 0 (.yfn r)).put 1 (.ptr qk 0 0)).put 3 (.sl H0.length 0 (37 + k.clocks.length) none)) rfl (by simp [wkS, Ch.get])).trans ((Wk.fzLast hlt (by simp [chOk, AV.fzOk, hhl])).trans (Wk.slots' rfl ?_))
      simp [wkS, Ch.get, Ch.fz, AV.fz]
      exact ⟨List.take_of_length_le (Nat.le_of_eq ((List.length_map Pb.row).trans hhl)), by omega⟩
  rintro _ _
  have hLh : (headL k.clocks.length).length ≤ 41 := by omega
  refine seq_cut (fun _ : Heap => (Ch.nil.put 0 (.yfn r)).put 1 (.ptr qk 0 0)) (fun H => H) (fun H => I (37 + k.clocks.length) H) (by kernel_rfl) ?_ ?_
  · intro K hK
    simp only [go_sem,List.length_map]
    refine loop_fam (fun q : Nat × Heap => ((((Ch.nil.put 0 (.yfn r)).put 1 (.ptr qk 0 0)).put 58 (.view false 6 ((headL k.clocks.length).map Pb.row))).put 59 (iv (37 + k.clocks.length : Nat))).put 60 (iv q.1)) (fun q => q.2) (fun q => 41 - q.1) (fun q => q.1 ≤ 37 + k.clocks.length ∧ I q.1 q.2) (0, H0 ++ [.dead]) (by kernel_rfl) ⟨Nat.zero_le _, hd 0 _ h0⟩ ?_ ?_
    · refine Wk.slots' rfl ?_
      simp [wkS, Ch.get, Ch.put?, cev, AV.ofV, hhl]
    rintro ⟨i, H⟩ ⟨hi, hI⟩ K2 hK2
    simp only at hi hI
    simp only [go_sem]
    refine condD_dec (fun hc => ?_) (fun hc => ?_)
    · have hil : i < (headL k.clocks.length).length := by omega
      obtain ⟨pb, hpb⟩ : ∃ pb, (headL k.clocks.length)[i]? = some pb := ⟨_, List.getElem?_eq_getElem hil⟩
      have hpr : ((headL k.clocks.length).map Pb.row)[i]? = some pb.row := by rw [List.getElem?_map, hpb]; rfl
      have hb : (0 : Int) ≤ i ∧ (i : Int) < (((headL k.clocks.length).map Pb.row).length : Int) := by rw [List.length_map]; omega
      have hL : (listL k)[i]? = some pb := by rw [listL, List.getElem?_append_left hil]; exact hpb
      have e2 : iw .i64 ((i : Int) + 1) = ((i + 1 : Nat) : Int) := by rw [iw64] <;> omega
      simp only [go_sem]
      refine seq_cutS (fun _ : Unit => (((((Ch.nil.put 0 (.yfn r)).put 1 (.ptr qk 0 0)).put 58 (.view false 6 ((headL k.clocks.length).map Pb.row))).put 59 (iv (37 + k.clocks.length : Nat))).put 60 (iv i)).put 10 (.ptr H.length 0 0)) (fun _ => H ++ [.rows 6 [pb.row]]) (fun _ => True) ?_ ?_
      · intro K3 hK3
        simp only [go_sem,hpr,hb,Pb.row,hK_appc,fun b : Blk => show (H ++ [b])[H.length]? = some b by simp,fun x z : Blk => show (H ++ [x]).set H.length z = H ++ [z] by simp]
        refine hK3 () _ _ trivial ?_
        exact Wk.slots' rfl (by simp [wkS, Ch.get])
      intro _ _
      refine SWp.seq (K := fun s' H' => ∃ H2, I (i + 1) H2 ∧ Wk H0.length 100 s' H' ((((((Ch.nil.put 0 (.yfn r)).put 1 (.ptr qk 0 0)).put 58 (.view false 6 ((headL k.clocks.length).map Pb.row))).put 59 (iv (37 + k.clocks.length : Nat))).put 60 (iv i)).put 67 (.bool false)) H2) ?_ ?_
      · refine SWp.yield 2 rfl (by kernel_rfl) ?_
        simp only [go_sem,fun b : Blk => show (H ++ [b])[H.length]? = some b by simp,Pb.row]
        refine ⟨r, rfl, (hy i pb H hI hL (by omega)).mono ?_⟩
        rintro o H' ⟨rfl, hI'⟩
        have hit : decide (i < 2000) = true := decide_eq_true (by omega)
        rw [hit]
        simp only [go_sem]
        refine ⟨H', hI', ?_⟩
        exact Wk.slots' rfl (by simp [wkS, Ch.get])
      · rintro s' H' ⟨H2, hI2, hw⟩
        refine SWp.wk hw (cwp_sound _ (by kernel_rfl) _ _ _ ?_)
        simp only [go_sem,e2]
        refine hK2 (i + 1, H2) _ _ ⟨by simp only; omega, hI2⟩ (by simp only; omega) ?_
        exact Wk.slots' rfl (by simp [wkS, Ch.get])
    · simp only [go_sem]
      obtain rfl : i = 37 + k.clocks.length := by omega
      refine hK H _ _ hI ?_
      exact Wk.slots' rfl (by simp [wkS, Ch.get])
  rintro H hI
  have hplen : k.procs.length ≤ 8 := (kOk_procs hk).1
  simp only [go_sem,hkb _ H hI,Kn.row,List.length_map]
  refine loop_fam (fun q : Nat × Nat × Heap => ((((Ch.nil.put 0 (.yfn r)).put 1 (.ptr qk 0 0)).put 70 (.view false 6 (k.procs.map Pc.row))).put 71 (iv k.procs.length)).put 72 (iv q.1)) (fun q => q.2.2) (fun q => k.procs.length - q.1)
    (fun q => q.1 ≤ k.procs.length ∧ (q.2.1 ≤ 2000 ∧ q.2.1 ≤ (listL k).length) ∧ I q.2.1 q.2.2 ∧ (listL k).drop q.2.1 = procL (k.procs.drop q.1) q.1) (0, 37 + k.clocks.length, H) (by kernel_rfl) ⟨Nat.zero_le _, ⟨by simp only; omega, by simp only; rw [listL, List.length_append, hhl]; omega⟩, hI, by rw [listL, ← hhl, List.drop_left]; rfl⟩ ?_ ?_
  · exact Wk.slots' rfl (by simp [wkS, Ch.get, Ch.put?, cev, AV.ofV])
  rintro ⟨pid, i, H⟩ ⟨hpi, hi, hI, hrest⟩ K hK
  simp only at hpi hi hI hrest
  simp only [go_sem]
  refine condD_dec (fun hc => ?_) (fun hc => ?_)
  · have hpl : pid < k.procs.length := by omega
    obtain ⟨pc, hpc⟩ : ∃ pc, k.procs[pid]? = some pc := ⟨_, List.getElem?_eq_getElem hpl⟩
    have hpr : (k.procs.map Pc.row)[pid]? = some pc.row := by rw [List.getElem?_map, hpc]; rfl
    have hpb : (0 : Int) ≤ pid ∧ (pid : Int) < (k.procs.length : Int) := by omega
    have e2 : iw .i64 ((pid : Int) + 1) = ((pid + 1 : Nat) : Int) := by rw [iw64] <;> omega
    have hdr : k.procs.drop pid = pc :: k.procs.drop (pid + 1) := by rw [List.drop_eq_getElem_cons hpl]; congr 1; exact Option.some.inj ((List.getElem?_eq_getElem hpl).symm.trans hpc)
    rw [hdr, procL] at hrest
    have hok : pcOk pc = true := (kOk_procs hk).2.2 pc (List.mem_of_getElem? hpc)
    have hsl : pc.syms.length ≤ 32 := (pcOk_sym hok).2.1
    simp only [go_sem,hpr,hpb,Pc.row,hK_appc,fun b : Blk => show (H ++ [b])[H.length]? = some b by simp,fun x z : Blk => show (H ++ [x]).set H.length z = H ++ [z] by simp,List.length_map]
    refine loop_fam (fun q : Nat × Nat × Heap => ((((((((Ch.nil.put 0 (.yfn r)).put 1 (.ptr qk 0 0)).put 70 (.view false 6 (k.procs.map Pc.row))).put 71 (iv k.procs.length)).put 72 (iv pid)).put 11 (iv pid)).put 78 (.view false 3 (pc.syms.map Sy.row))).put 79 (iv pc.syms.length)).put 80 (iv q.1)) (fun q => q.2.2) (fun q => pc.syms.length - q.1)
      (fun q => q.1 ≤ pc.syms.length ∧ (q.2.1 ≤ 2000 ∧ q.2.1 ≤ (listL k).length) ∧ I q.2.1 q.2.2 ∧ (listL k).drop q.2.1 = symL pc pid (pc.syms.drop q.1) ++ procL (k.procs.drop (pid + 1)) (pid + 1)) (0, i, H ++ [.dead]) (by kernel_rfl) ⟨Nat.zero_le _, hi, hd _ _ hI, hrest⟩ ?_ ?_
    · refine (Wk.kill [H.length]).trans (Wk.slots' (by simp [kill]) ?_)
      simp [wkS, Ch.get, Ch.put?, cev, AV.ofV]
    rintro ⟨j, i, H⟩ ⟨hji, hi, hI, hrest⟩ K2 hK2
    simp only at hji hi hI hrest
    simp only [go_sem]
    refine condD_dec (fun hc => ?_) (fun hc => ?_)
    · have hjl : j < pc.syms.length := by omega
      obtain ⟨y, hyy⟩ : ∃ y, pc.syms[j]? = some y := ⟨_, List.getElem?_eq_getElem hjl⟩
      have hyr : (pc.syms.map Sy.row)[j]? = some y.row := by rw [List.getElem?_map, hyy]; rfl
      have hyb : (0 : Int) ≤ j ∧ (j : Int) < (pc.syms.length : Int) := by omega
      have e3 : iw .i64 ((j : Int) + 1) = ((j + 1 : Nat) : Int) := by rw [iw64] <;> omega
      have hdr2 : pc.syms.drop j = y :: pc.syms.drop (j + 1) := by rw [List.drop_eq_getElem_cons hjl]; congr 1; exact Option.some.inj ((List.getElem?_eq_getElem hjl).symm.trans hyy)
      rw [hdr2, symL, List.flatMap_cons, List.append_assoc] at hrest
      have hsy : pc.s.ok ∧ 0 ≤ y.at_ ∧ 0 ≤ y.size ∧ y.at_ + y.size ≤ 4096 := ⟨(pcOk_sym hok).1, (pcOk_sym hok).2.2 y (List.mem_of_getElem? hyy)⟩
      have hqk : ∀ b : Blk, (H ++ [b])[qk]? = some (.rows 8 [k.row]) := fun b => by rw [List.getElem?_append_left (List.getElem?_eq_some_iff.1 (hkb i H hI)).1, hkb i H hI]
      simp only [go_sem,hyr,hyb,Sy.row,hK_appc,hqk,Kn.row,fun b : Blk => show (H ++ [b])[H.length]? = some b by simp,fun x z : Blk => show (H ++ [x]).set H.length z = H ++ [z] by simp,List.length_map]
      refine rK_use (Go.AM.enters_of Tryz.func51 rfl (by decide)) (ACalls.pure_use (placed_c k pid pc y hpc hsy.1 hsy.2.1 hsy.2.2.1 hsy.2.2.2 (by omega)) (by simp [AV.lt, ltL, Kn.av, Kn.row, Sy.row]) rfl) ?_
      have hPl : (placedL pc y pid).length ≤ 100000 := by
        have h1 : (insL pc.s y).length ≤ y.size.toNat := insAt_len
        have h2 := ent_len (pc := pc) (y := y) (pid := pid) (insL pc.s y)
        have h3 := ret_len (pc := pc) (y := y) (pid := pid) (insL pc.s y)
        rw [placedL, List.length_append, List.length_append, List.length_map]
        omega
      generalize placedL pc y pid = P at *
      simp only [go_sem,List.length_map]
      refine loop_fam (fun q : Nat × Nat × Heap => (((((((((((Ch.nil.put 0 (.yfn r)).put 1 (.ptr qk 0 0)).put 70 (.view false 6 (k.procs.map Pc.row))).put 71 (iv k.procs.length)).put 72 (iv pid)).put 11 (iv pid)).put 78 (.view false 3 (pc.syms.map Sy.row))).put 79 (iv pc.syms.length)).put 80 (iv j)).put 87 (.view false 6 (P.map Pb.row))).put 88 (iv P.length)).put 89 (iv q.1)) (fun q => q.2.2) (fun q => P.length - q.1)
        (fun q => q.1 ≤ P.length ∧ (q.2.1 ≤ 2000 ∧ q.2.1 ≤ (listL k).length) ∧ I q.2.1 q.2.2 ∧ (listL k).drop q.2.1 = P.drop q.1 ++ (symL pc pid (pc.syms.drop (j + 1)) ++ procL (k.procs.drop (pid + 1)) (pid + 1))) (0, i, H ++ [.dead]) (by kernel_rfl) ⟨Nat.zero_le _, hi, hd _ _ hI, hrest⟩ ?_ ?_
      · refine (Wk.kill [H.length]).trans (Wk.slots' (by simp [kill]) ?_)
        simp [wkS, Ch.get, Ch.put?, cev, AV.ofV]
      rintro ⟨m, i, H⟩ ⟨hmi, hi, hI, hrest⟩ K3 hK3
      simp only at hmi hi hI hrest
      simp only [go_sem]
      refine condD_dec (fun hc => ?_) (fun hc => ?_)
      · have hml : m < P.length := by omega
        obtain ⟨pb, hpb2⟩ : ∃ pb, P[m]? = some pb := ⟨_, List.getElem?_eq_getElem hml⟩
        have hbr : (P.map Pb.row)[m]? = some pb.row := by rw [List.getElem?_map, hpb2]; rfl
        have hbb : (0 : Int) ≤ m ∧ (m : Int) < (P.length : Int) := by omega
        have e4 : iw .i64 ((m : Int) + 1) = ((m + 1 : Nat) : Int) := by rw [iw64] <;> omega
        have hdr3 : P.drop m = pb :: P.drop (m + 1) := by rw [List.drop_eq_getElem_cons hml]; congr 1; exact Option.some.inj ((List.getElem?_eq_getElem hml).symm.trans hpb2)
        rw [hdr3, List.cons_append] at hrest
        have hL : (listL k)[i]? = some pb := by
          have := congrArg (fun l => l[0]?) hrest
          simpa using this
        have hiL := (List.getElem?_eq_some_iff.1 hL).1
        have hrest2 : (listL k).drop (i + 1) = P.drop (m + 1) ++ (symL pc pid (pc.syms.drop (j + 1)) ++ procL (k.procs.drop (pid + 1)) (pid + 1)) := by
          rw [← List.drop_drop, hrest]; rfl
        simp only [go_sem]
        refine seq_cutS (fun _ : Unit => ((((((((((((Ch.nil.put 0 (.yfn r)).put 1 (.ptr qk 0 0)).put 70 (.view false 6 (k.procs.map Pc.row))).put 71 (iv k.procs.length)).put 72 (iv pid)).put 11 (iv pid)).put 78 (.view false 3 (pc.syms.map Sy.row))).put 79 (iv pc.syms.length)).put 80 (iv j)).put 87 (.view false 6 (P.map Pb.row))).put 88 (iv P.length)).put 89 (iv m)).put 16 (.ptr H.length 0 0)) (fun _ => H ++ [.rows 6 [pb.row]]) (fun _ => True) ?_ ?_
        · intro K4 hK4
          simp only [go_sem,hbr,hbb,Pb.row,hK_appc,fun b : Blk => show (H ++ [b])[H.length]? = some b by simp,fun x z : Blk => show (H ++ [x]).set H.length z = H ++ [z] by simp,List.length_map]
          refine hK4 () _ _ trivial ?_
          exact Wk.slots' rfl (by simp [wkS, Ch.get])
        intro _ _
        refine SWp.seq (K := fun s' H' => ∃ H2, I (i + 1) H2 ∧ Wk H0.length 100 s' H' (((((((((((((Ch.nil.put 0 (.yfn r)).put 1 (.ptr qk 0 0)).put 70 (.view false 6 (k.procs.map Pc.row))).put 71 (iv k.procs.length)).put 72 (iv pid)).put 11 (iv pid)).put 78 (.view false 3 (pc.syms.map Sy.row))).put 79 (iv pc.syms.length)).put 80 (iv j)).put 87 (.view false 6 (P.map Pb.row))).put 88 (iv P.length)).put 89 (iv m)).put 96 (.bool !decide (i < 2000))) H2) ?_ ?_
        · refine SWp.yield 2 rfl (by kernel_rfl) ?_
          simp only [go_sem,fun b : Blk => show (H ++ [b])[H.length]? = some b by simp,Pb.row]
          refine ⟨r, rfl, (hy i pb H hI hL hi.1).mono ?_⟩
          rintro o H' ⟨rfl, hI'⟩
          simp only [go_sem]
          refine ⟨H', hI', ?_⟩
          exact Wk.slots' rfl (by simp [wkS, Ch.get])
        · rintro s' H' ⟨H2, hI2, hw⟩
          refine SWp.wk hw (cwp_sound _ (by kernel_rfl) _ _ _ ?_)
          by_cases hi2 : i < 2000
          · rw [decide_eq_true hi2]
            simp only [go_sem,e4]
            refine hK3 (m + 1, i + 1, H2) _ _ ⟨by simp only; omega, ⟨by simp only; omega, by simp only; omega⟩, hI2, hrest2⟩ (by simp only; omega) ?_
            exact Wk.slots' rfl (by simp [wkS, Ch.get])
          · rw [decide_eq_false hi2]
            simp only [go_sem]
            refine .done ⟨rfl, H2, [], ?_, (List.append_nil _).symm⟩
            rw [show min (listL k).length 2001 = i + 1 by omega]
            exact hI2
      · simp only [go_sem,e3]
        obtain rfl : m = P.length := by omega
        refine hK2 (j + 1, i, H) _ _ ⟨by simp only; omega, hi, hI, ?_⟩ (by simp only; omega) ?_
        · rw [hrest, List.drop_length]; rfl
        · exact Wk.slots' rfl (by simp [wkS, Ch.get])
    · simp only [go_sem,e2]
      obtain rfl : j = pc.syms.length := by omega
      refine hK (pid + 1, i, H) _ _ ⟨by simp only; omega, hi, hI, ?_⟩ (by simp only; omega) ?_
      · rw [hrest, List.drop_length]; rfl
      · exact Wk.slots' rfl (by simp [wkS, Ch.get])
  · simp only [go_sem]
    obtain rfl : pid = k.procs.length := by omega
    rw [List.drop_length] at hrest
    have : (listL k).length ≤ i := List.drop_eq_nil_iff.1 hrest
    refine .done ⟨rfl, H, [], ?_, (List.append_nil _).symm⟩
    rw [show min (listL k).length 2001 = i by omega]
    exact hI
end Go.Proofs.YtigmnlnomhjecaaGreatDoor
set_option maxRecDepth 100000
set_option linter.unusedVariables false
set_option linter.unusedSimpArgs false
namespace Go.Proofs.YtigmnlnomhjecaaGreatDoor
open Go.AM
open Go.Glob (Bs Dsc)
theorem probes_c (k : Kn) : ACalls Tryz.prog 32 [k.av] [] (fun o H => o = .ret (.func (.func 48) [] [.ptr 0 0 0]) ∧ H = [.rows 8 [k.row]]) := by
  refine ACalls.up ?_
  refine ACalls.intro (cs := []) (n := 4) Tryz.func32 rfl rfl rfl (by kernel_rfl) rfl ?_
  simp only [go_sem,Kn.av,Kn.row]
  exact .done ⟨rfl, rfl⟩
def listR (k : Kn) : List Pb × Int := if kOk k = true then (if (listL k).length ≤ 2000 then (listL k, 0) else ([], 2)) else ([], 60)
def liH (k : Kn) (v e : AV) (p n : Nat) (lb : Blk) (T : Heap) : Heap := .rows 8 [k.row] :: .rows 1 [[v]] :: .rows 1 [[e]] :: .rows 1 [[.sl (p + 1 + 1 + 1 + 1 + 1 + 1) 0 n none]] :: .rows 8 [k.row] :: lb :: T
def liI (k : Kn) (f : FuncId) (ac bc : Code) (s : Ch) (i : Nat) (H : Heap) : Prop :=
  (i ≤ 2000 ∧ ∃ p T, H = liH k (.view true 0 []) (iv 0) p i (LB f #[14] ac bc .ready none 23 s) T ∧ (∀ b ∈ T, b.lt 0) ∧ T[p]? = some (pbRows ((listL k).take i))) ∨
  (2000 < i ∧ ∃ p T, H = liH k (.view true 0 []) (iv 2) p i (LB f #[14] ac bc .done (some .ret) 23 s) T)
theorem list_res : Tryz.f17.results.toList = [ResultVar.cell 2 48, ResultVar.cell 3 49] := rfl
def liS : Ch := ((Ch.nil.put 2 (.ptr 1 0 0)).put 3 (.ptr 2 0 0)).put 5 (.ptr 3 0 0)
theorem list_range (k : Kn) (hk : kOk k = true) (hz : k.Sz) (f : FuncId) (ac bc : Code) {Q : CQ}
    (hy : ∀ i pb H, liI k f ac bc liS i H → (listL k)[i]? = some pb → i ≤ 2000 → RYield Tryz.prog 5 [pb.av] (H ++ [.rows 6 [pb.row]]) (fun o H' => o = .ret (.bool (decide (i < 2000))) ∧ liI k f ac bc liS (i + 1) H'))
    (hq : ∀ H1 g, liI k f ac bc liS (min (listL k).length 2001) H1 → Q (.ret (.tuple [])) (H1 ++ g)) :
    ACalls Tryz.prog 48 ([] ++ [.yfn 5] ++ [.ptr 4 0 0]) ([.rows 8 [k.row], .rows 1 [[.view true 0 []]], .rows 1 [[.int .i64 0]], .rows 1 [[.view true 0 []]], .rows 8 [k.row]] ++ [LB f #[14] ac bc .ready none 23 liS]) Q := by
  refine ACalls.ghost (.rows 6 []) ?_
  refine ACalls.leH (H' := liH k (.view true 0 []) (iv 0) 0 0 (LB f #[14] ac bc .ready none 23 liS) [.rows 6 []]) ?_ ?_
  · exact .cons (.refl _) (.cons (.refl _) (.cons (.refl _) (.cons (.rows 1 (.cons (.cons (.sl0 _ _ _) .nil) .nil)) (.cons (.refl _) (.cons (.refl _) (LeH.refl _))))))
  refine ACalls.mono (probes1_c k hk hz 5 4 (liI k f ac bc liS) _ (by simp [liH]) (by simp [liH]) ?_ ?_ ?_ ?_ hy) ?_
  · exact .inl ⟨by omega, 0, _, rfl, by simp [Blk.lt], rfl⟩
  · intro b hb
    simp only [liH, List.mem_cons, List.not_mem_nil, or_false] at hb
    have hl : (liH k (.view true 0 []) (iv 0) 0 0 (LB f #[14] ac bc .ready none 23 liS) [.rows 6 []]).length = 7 := rfl
    rw [hl]
    rcases hb with rfl | rfl | rfl | rfl | rfl | rfl | rfl
    · exact kb_lt k _
    · simp [Blk.lt, ltL, AV.lt]
    · simp [Blk.lt, ltL, AV.lt]
    · simp [Blk.lt, ltL, AV.lt]
    · exact kb_lt k _
    · rfl
    · simp [Blk.lt]
  · rintro i H (⟨_, p, T, rfl, _⟩ | ⟨_, p, T, rfl⟩) <;> rfl
  · rintro i H (⟨h1, p, T, rfl, h2, h3⟩ | ⟨h1, p, T, rfl⟩)
    · exact .inl ⟨h1, p, T ++ [.dead], rfl, fun b hb => (List.mem_append.1 hb).elim (h2 b) (fun hb => by rw [List.mem_singleton.1 hb]; trivial), tl_app h3⟩
    · exact .inr ⟨h1, p, T ++ [.dead], rfl⟩
  · rintro o H ⟨rfl, H1, g, h, rfl⟩
    exact hq H1 g h
theorem list_c (k : Kn) (hz : k.Sz) : ACalls Tryz.prog 17 [k.av] [] (fun o H => o = .ret (.tuple [.view false 6 ((listR k).1.map Pb.row), iv (listR k).2]) ∧ H = []) := by
  refine ACalls.up ?_
  refine ACalls.introR (n := 23) Tryz.func17 rfl (by kernel_rfl) rfl ?_
  refine FWp.split (FWp.step [] rfl (by kernel_rfl) ?_)
  simp only [go_sem,Kn.av,Kn.row]
  refine FWp.split (FWp.step [] rfl (by kernel_rfl) ?_)
  simp only [go_sem]
  refine rK_use (Go.AM.enters_of Tryz.func31 rfl (by decide)) (ACalls.pure_use (kcheck_c k hz) (by simp [AV.lt, ltL, Kn.av, Kn.row]) rfl) ?_
  by_cases hk : kOk k = true
  · rw [show kchk k = 0 from if_pos hk]
    simp only [go_sem]
    refine FWp.split (FWp.step [] rfl (by kernel_rfl) ?_)
    simp only [go_sem]
    refine FWp.split (FWp.split (FWp.step [] rfl (by kernel_rfl) ?_))
    simp only [go_sem]
    refine rK_use (Go.AM.enters_of Tryz.func32 rfl (by decide)) (ACalls.freshL (v' := .func (.func 48) [] [.ptr 4 0 0]) (probes_c k) (by simp [AV.lt, ltL, Kn.av, Kn.row]) (by simp [Blk.lt, Kn.row_lt]) rfl) ?_
    simp only [go_sem]
    refine FWp.wk (s' := liS.put 13 (.func (.func 48) [] [.ptr 4 0 0])) (Wk.slots' rfl (by simp [wkS, Ch.get, liS])) ?_
    refine FWp.range liS rfl (by kernel_rfl) rfl (Go.AM.enters_of Tryz.func48 rfl (by decide)) (by simp [wkS, Ch.get, liS]) (fun f => ?_)
    refine list_range k hk hz f _ _ ?_ ?_
    · rintro i pb H (⟨hi, p, T, rfl, hT, hp⟩ | ⟨hi, _⟩) hpb hi2
      · have hil := (List.getElem?_eq_some_iff.1 hpb).1
        have hle : ((listL k).take i).length = i := by rw [List.length_take]; omega
        have ht : (listL k).take (i + 1) = (listL k).take i ++ [pb] := by rw [List.take_add_one, hpb]; rfl
        refine RYield.intro [] rfl (by kernel_rfl) (by kernel_rfl) (by kernel_rfl) ?_
        obtain ⟨A, hA⟩ : ∃ A, A = (listL k).take i := ⟨_, rfl⟩
        rw [← hA] at hp hle ht
        have hpT : ∀ b ∈ T ++ [Blk.rows 6 [pb.row]], b.lt 0 := fun b hb => (List.mem_append.1 hb).elim (hT b) (fun hb => by rw [List.mem_singleton.1 hb]; simp [Blk.lt, Pb.row_lt])
        have hp1 := tl_app (x := .rows 6 [pb.row]) hp
        simp only [liH, List.cons_append]
        generalize T ++ [Blk.rows 6 [pb.row]] = T at *
        have qa : ∀ (b : Blk) (l : Heap), (T ++ b :: l)[T.length]? = some b := fun b l => by simp
        have qb : ∀ (b c : Blk) (l : Heap), (T ++ b :: c :: l)[T.length + 1]? = some c := fun b c l => by
          rw [List.getElem?_append_right (by omega)]; simp
        have qs : ∀ (b z : Blk) (l : Heap), (T ++ b :: l).set T.length z = T ++ z :: l := fun b z l => by
          rw [List.set_append_right _ _ (Nat.le_refl _)]; simp
        have l1 : ∀ b : Blk, (T ++ [b]).length = T.length + 1 := fun b => by simp
        have l2 : ∀ b c : Blk, (T ++ [b, c]).length = T.length + 2 := fun b c => by simp
        have q1 : ∀ l, (T ++ l)[p]? = some (.rows 6 (A.map Pb.row)) := fun l => by rw [List.getElem?_append_left (List.getElem?_eq_some_iff.1 hp1).1, hp1]; rfl
        have q2 : A.length ≤ (A.map Pb.row).length ∧ A.length + 1 ≤ 68719476736 := by rw [List.length_map]; omega
        have q4 : (A.map Pb.row).take A.length = A.map Pb.row := List.take_of_length_le (by simp)
        rw [← hle]
        simp only [go_sem,Pb.av,Pb.row,putsCh,liS,qa,qs]
        refine ⟨_, rfl, ?_⟩
        simp only [go_sem,qa,qb,l1,l2,q1,q2,q4]
        have hp2 := tl_app (x := .rows 6 [pb.row]) hp1
        have hT2 : ∀ b ∈ T ++ [Blk.rows 6 [pb.row]], b.lt 0 := fun b hb => (List.mem_append.1 hb).elim (hpT b) (fun hb => by rw [List.mem_singleton.1 hb]; simp [Blk.lt, Pb.row_lt])
        refine condD_dec (fun hc => ?_) (fun hc => ?_)
        · simp only [go_sem]
          have hi3 : ¬ (A.length < 2000) := by omega
          refine ⟨liS, _, Wk.slots' rfl (by simp [wkS, Ch.get, liS]), rfl, ?_⟩
          refine ⟨by rw [decide_eq_false hi3], .inr ⟨by omega, T.length + 2, _, rfl⟩⟩
        · simp only [go_sem]
          have hi3 : A.length < 2000 := by omega
          refine ⟨liS, _, Wk.slots' rfl (by simp [wkS, Ch.get, liS]), rfl, ?_⟩
          refine ⟨by rw [decide_eq_true hi3], .inl ⟨by omega, T.length + 2, _, rfl, ?_, ?_⟩⟩
          · have e := (List.append_assoc T [Blk.rows 6 [pb.row]] [Blk.rows 6 [pb.row]]).symm
            simp only [Pb.row, List.cons_append, List.nil_append] at e
            rw [e]
            exact tl_grow hT2 (by simp [Blk.lt, ltL, AV.lt]) (pbr_lt (A ++ [pb]) 0 |> fun h => by simpa [pbRows, Pb.row] using h)
          · have e := (List.append_assoc T [Blk.rows 6 [pb.row]] [Blk.rows 6 [pb.row]]).symm
            simp only [Pb.row, List.cons_append, List.nil_append] at e
            have e2 : T.length + 2 = (T ++ [Blk.rows 6 [[Sv pb.d.p, Sv pb.d.m, Sv pb.d.f, Sv pb.d.n, iv pb.pid, iv pb.at_]]]).length + 1 := by simp
            rw [e, e2, tl_new, hle, ht, pbRows, List.map_append]; rfl
      · omega
    · rintro H1 g (⟨hi, p, T, rfl, hT, hp⟩ | ⟨hi, p, T, rfl⟩)
      · have hn : (listL k).length ≤ 2000 := by omega
        have : listR k = (listL k, 0) := by rw [listR, if_pos hk, if_pos hn]
        rw [this]
        rw [show min (listL k).length 2001 = (listL k).length by omega] at hp ⊢
        rw [List.take_of_length_le (Nat.le_refl _)] at hp
        refine ⟨.ready, none, _, rfl, (by intro h; cases h), ?_⟩
        refine ⟨((Ch.nil.put 2 (.ptr 0 0 0)).put 3 (.ptr 1 0 0)).put 5 (.ptr 2 0 0), [.rows 1 [[.view true 0 []]], .rows 1 [[iv 0]], .rows 1 [[.view false 6 ((listL k).map Pb.row)]], .dead], ?_, fun dd => ?_⟩
        · refine (Wk.pick (s' := ((Ch.nil.put 2 (.ptr 0 0 0)).put 3 (.ptr 1 0 0)).put 5 (.ptr 2 0 0)) (H' := [.rows 1 [[.view true 0 []]], .rows 1 [[iv 0]], .rows 1 [[.sl 3 0 (listL k).length none]], pbRows (listL k)]) [1, 2, 3, p + 6] (by simp) rfl ?_ ?_).trans ?_
          · have hl : ∀ lb, ((liH k (.view true 0 []) (iv 0) p (listL k).length lb T ++ g).set 5 .dead)[p + 6]? = some (pbRows (listL k)) := fun lb => by
              show (T ++ g)[p]? = _
              rw [List.getElem?_append_left (List.getElem?_eq_some_iff.1 hp).1, hp]
            simp only [List.map_cons, List.map_nil, pb_ren]
            exact congrArg (fun x => _ :: _ :: _ :: x :: []) (hl _)
          · simp [wkP, Ch.get, AV.ren, pi, liS]
          · have tk : ((listL k).map Pb.row).take (listL k).length = (listL k).map Pb.row := List.take_of_length_le (by simp)
            refine Wk.trans (Wk.fz (r := 3) (sz := 6) (xs := (listL k).map Pb.row) rfl (pb_pure _) (by simp [Blk.fzOk, fzOkL, AV.fzOk]) (by simp [chOk, AV.fzOk])) ?_
            simp [Ch.fz, AV.fz, fzL, Blk.fz, tk]
            exact Wk.refl _ _ _ _
        · simp only [go_sem,list_res]
          exact finv rfl ⟨rfl, rfl⟩ _
      · have hn : ¬ (listL k).length ≤ 2000 := by omega
        have : listR k = ([], 2) := by rw [listR, if_pos hk, if_neg hn]
        rw [this]
        refine ⟨.done, some .ret, _, rfl, (by intro h; cases h), ?_⟩
        simp only [liH, liS, List.cons_append]
        simp only [go_sem,list_res]
        refine .le (.ret (.tuple (.cons (.nil _ _ 0 6 (by simp)) (.cons (.refl _) .nil)))) (LeH.refl _) (finv rfl ⟨rfl, rfl⟩ _)
  · rw [show kchk k = 60 from if_neg hk]
    have : listR k = ([], 60) := by rw [listR, if_neg hk]
    rw [this]
    simp only [go_sem,list_res]
    refine .le (.ret (.tuple (.cons (.nil _ _ 0 6 (by simp)) (.cons (.refl _) .nil)))) (LeH.refl _) (finv rfl ⟨rfl, rfl⟩ _)
end Go.Proofs.YtigmnlnomhjecaaGreatDoor
set_option maxRecDepth 100000
set_option linter.unusedVariables false
set_option linter.unusedSimpArgs false
namespace Go.Proofs.YtigmnlnomhjecaaGreatDoor
open Go.AM
open Go.Glob (Bs Dsc)
structure Ev where
  kind : Int
  cpu : Int
  time : Int
  pid : Int
  tid : Int
  at_ : Int
  a0 : Int
  a1 : Int
  a2 : Int
  a3 : Int
  a4 : Int
  a5 : Int
def Ev.row (e : Ev) : List AV := [iv e.kind, iv e.cpu, iv e.time, iv e.pid, iv e.tid, iv e.at_, iv e.a0, iv e.a1, iv e.a2, iv e.a3, iv e.a4, iv e.a5]
def Ev.av (e : Ev) : AV := .agg e.row
def hap (k : Kn) (e : Ev) (l : List Pb) : List AV := k.row ++ e.row ++ [.view false 6 (l.map Pb.row)]
theorem hap_lt (k : Kn) (e : Ev) (l : List Pb) (m : Nat) : ltL m (hap k e l) = true := rfl
def ev1 : Ev := ⟨1, 0, 0, 0, 0, 1, 0, 0, 0, 0, 0, 0⟩
theorem k1_procs : ∃ pr, (k1.procs.map Pc.row) = [pr] := ⟨_, rfl⟩
theorem fits1_c (l : List Pb) : ACalls Tryz.prog 37 [.agg (hap k1 ev1 l)] [] (fun o H => o = .ret (.bool true) ∧ H = []) := by
  obtain ⟨pr, hpr⟩ := k1_procs
  obtain ⟨cr, hcr⟩ : ∃ cr, (k1.clocks.map Ck.row) = [cr] := ⟨_, rfl⟩
  have htr : (k1.thr.map Th.row) = [[iv 0, iv 0, iv 0, iv 0, iv 0, iv 0, iv 0, iv 0, iv 128, iv 0, iv 0, iv 0, iv (-1)]] := rfl
  refine ACalls.up ?_
  refine ACalls.intro (cs := []) (n := 85) Tryz.func37 rfl rfl rfl (by kernel_rfl) rfl ?_
  simp only [go_sem,hap,Kn.row,ev1,Ev.row,hpr,hcr,htr,List.cons_append,List.nil_append]
  refine draw [.qu 0 1, .rd 0 1, .qu 0 2, .qu 0 2, .rd 0 2, .qu 0 2, .mn 0, .mn 1, .qu 2 2] (by kernel_rfl) (by kernel_rfl) ?_
  simp only [go_sem]
  refine draw [.qu 0 0, .qu 0 0, .qu 0 0, .qu 0 0, .qu 0 0, .qu 0 0, .qu 0 0, .qu 0 0, .qu 0 0, .qu 0 0, .qu 0 0, .qu 0 0, .qu 0 0, .qu 0 0, .qu 0 0, .qu 0 0, .qu 0 0, .qu 0 0, .qu 0 0, .qu 0 0, .qu 0 0, .qu 0 0, .qu 0 0, .qu 0 0, .qu 0 0, .qu 0 0, .qu 0 0, .qu 0 0] (by kernel_rfl) (by kernel_rfl) ?_
  simp only [go_sem]
  exact finv rfl ⟨rfl, rfl⟩ _
def hitB (e : Ev) (p : Pb) : Bool := decide (0 ≤ p.at_) && decide (p.at_ = e.at_) && decide (p.pid = e.pid)
def insnIx (e : Ev) : List Pb → Nat → List Int
  | [], _ => []
  | p :: l, i => (if hitB e p = true then [(i : Int)] else []) ++ insnIx e l (i + 1)
theorem insn_c (k : Kn) (e : Ev) (l : List Pb) (hl : l.length ≤ 2000) : ACalls Tryz.prog 60 [.agg (hap k e l)] [] (fun o H => o = .ret (.view false 1 ((insnIx e l 0).map r1)) ∧ H = []) := by
  refine ACalls.up ?_
  refine ACalls.intro (cs := []) (n := 39) Tryz.func60 rfl rfl rfl (by kernel_rfl) rfl ?_
  simp only [go_sem,hap,Kn.row,Ev.row,List.cons_append,List.nil_append,List.length_map]
  obtain ⟨X, hX⟩ : ∃ X, X = hap k e l := ⟨_, rfl⟩
  refine loop_fam (fun q : Nat × List Int => ((((Ch.nil.put 1 (.ptr 0 0 0)).put 3 (.sl 1 0 q.2.length none)).put 7 (.view false 6 (l.map Pb.row))).put 8 (iv l.length)).put 9 (iv q.1)) (fun q => [.rows 21 [X], .rows 1 (q.2.map r1)]) (fun q => l.length - q.1)
    (fun q => q.1 ≤ l.length ∧ q.2.length ≤ q.1 ∧ insnIx e l 0 = q.2 ++ insnIx e (l.drop q.1) q.1) (0, []) (by kernel_rfl) ⟨Nat.zero_le _, Nat.le_refl _, rfl⟩ ?_ ?_
  · refine (Wk.slots' (s' := ((((Ch.nil.put 1 (.ptr 0 0 0)).put 3 (.view true 0 [])).put 7 (.view false 6 (l.map Pb.row))).put 8 (iv l.length)).put 9 (iv 0)) rfl (by simp [wkS, Ch.get, Ch.put?, cev, AV.ofV])).trans ((Wk.ghost (.rows 1 [])).trans (Wk.le (.cons _ (.cons _ (.cons _ (.cons _ (.cons _ .nil (.refl _)) (.sl0 _ _ _)) (.refl _)) (.refl _)) (.refl _)) ?_))
    rw [hX]
    exact LeH.refl _
  rintro ⟨i, acc⟩ ⟨hi, hal, hinv⟩ K hK
  simp only at hi hal hinv
  simp only [go_sem]
  refine condD_dec (fun hc => ?_) (fun hc => ?_)
  · have hil : i < l.length := by omega
    obtain ⟨pb, hpb⟩ : ∃ pb, l[i]? = some pb := ⟨_, List.getElem?_eq_getElem hil⟩
    have hpr : (l.map Pb.row)[i]? = some pb.row := by rw [List.getElem?_map, hpb]; rfl
    have hb : (0 : Int) ≤ i ∧ (i : Int) < (l.length : Int) := by omega
    have e2 : iw .i64 ((i : Int) + 1) = ((i + 1 : Nat) : Int) := by rw [iw64] <;> omega
    have hdr : l.drop i = pb :: l.drop (i + 1) := by rw [List.drop_eq_getElem_cons hil]; congr 1; exact Option.some.inj ((List.getElem?_eq_getElem hil).symm.trans hpb)
    rw [hdr, insnIx, ← List.append_assoc] at hinv
    have no : hitB e pb = false → insnIx e l 0 = acc ++ insnIx e (l.drop (i + 1)) (i + 1) := fun h => by rw [hinv, if_neg (by rw [h]; decide)]; simp
    have yes : hitB e pb = true → insnIx e l 0 = (acc ++ [(i : Int)]) ++ insnIx e (l.drop (i + 1)) (i + 1) := fun h => by rw [hinv, if_pos h]
    have q4 : (acc.map r1).take acc.length = acc.map r1 := List.take_of_length_le (by simp)
    have q2 : acc.length ≤ (acc.map r1).length ∧ acc.length + 1 ≤ 68719476736 := by rw [List.length_map]; omega
    have X1 : X[13]? = some (iv e.at_) := by rw [hX]; rfl
    have X2 : X[11]? = some (iv e.pid) := by rw [hX]; rfl
    have q5 : (Blk.rows 21 [X]).lt 0 := fun row hr => by rw [List.mem_singleton.1 hr, hX]; exact hap_lt k e l 0
    have q6 : ∀ (L : List Int) m, (Blk.rows 1 (L.map r1)).lt m := fun L m => blt0 (AM.rows_lt (fun _ => rfl) L)
    have q7 : ∀ b ∈ [Blk.rows 21 [X], Blk.rows 1 (acc.map r1)], b.lt 2 := fun b hb => by
      rcases List.mem_cons.1 hb with rfl | hb
      · exact blt_le (by omega) q5
      · rw [List.mem_singleton.1 hb]; exact q6 _ _
    by_cases h1 : 0 ≤ pb.at_
    · by_cases h2 : pb.at_ = e.at_
      · by_cases h3 : pb.pid = e.pid
        · have hh : hitB e pb = true := by rw [hitB, decide_eq_true h1, decide_eq_true h2, decide_eq_true h3]; rfl
          simp only [go_sem,hpr,hb,Pb.row,eq_true h1,eq_true h2,eq_true h3,X1,X2,q2,q4,e2,List.length_map]
          refine hK (i + 1, acc ++ [(i : Int)]) _ _ ⟨by simp only; omega, by simp; omega, yes hh⟩ (by simp only; omega) ?_
          refine Wk.push (A := [.rows 21 [X]]) (b := .rows 1 ((acc ++ [(i : Int)]).map r1)) 4 rfl ?_ (by simp) (by simp; exact blt_le (by omega) q5) (q6 _ _) (by simp) (by simp [wkP, Ch.get, AV.ren, pu_lt, pu_eq])
          simp
        · simp only [go_sem,hpr,hb,Pb.row,eq_true h1,eq_true h2,h3,X1,X2,q2,q4,e2,List.length_map]
          refine hK (i + 1, acc) _ _ ⟨by simp only; omega, by simp only; omega, no (by simp [hitB, h3])⟩ (by simp only; omega) ?_
          exact Wk.drop (m := 2) (by simp [wkS, Ch.get]) (Nat.zero_le _) (by simp) (by simp [chLt, AV.lt]) rfl q7
      · simp only [go_sem,hpr,hb,Pb.row,eq_true h1,h2,X1,X2,q2,q4,e2,List.length_map]
        refine hK (i + 1, acc) _ _ ⟨by simp only; omega, by simp only; omega, no (by simp [hitB, h2])⟩ (by simp only; omega) ?_
        exact Wk.drop (m := 2) (by simp [wkS, Ch.get]) (Nat.zero_le _) (by simp) (by simp [chLt, AV.lt]) rfl q7
    · simp only [go_sem,hpr,hb,Pb.row,h1,X1,X2,q2,q4,e2,List.length_map]
      refine hK (i + 1, acc) _ _ ⟨by simp only; omega, by simp only; omega, no (by simp [hitB, h1])⟩ (by simp only; omega) ?_
      exact Wk.drop (m := 2) (by simp [wkS, Ch.get]) (Nat.zero_le _) (by simp) (by simp [chLt, AV.lt]) rfl q7
  · simp only [go_sem]
    obtain rfl : i = l.length := by omega
    rw [List.drop_length, insnIx, List.append_nil] at hinv
    rw [hinv]
    have tk : (acc.map r1).take acc.length = acc.map r1 := List.take_of_length_le (by simp)
    refine up_one 1 1 (acc.map r1) rfl (AM.rows_lt (fun _ => rfl) acc) (by simp [Out.fzOk, AV.fzOk]) (by simp [Out.fz, AV.fz, Out.lt, AV.lt]) ⟨?_, rfl⟩
    simp [Out.fz, AV.fz, tk]
theorem fired1_c (k : Kn) (l : List Pb) (hl : l.length ≤ 2000) : ACalls Tryz.prog 38 [.agg (hap k ev1 l)] [] (fun o H => o = .ret (.view false 1 ((insnIx ev1 l 0).map r1)) ∧ H = []) := by
  refine ACalls.up ?_
  refine ACalls.intro (cs := []) (n := 22) Tryz.func38 rfl rfl rfl (by kernel_rfl) rfl ?_
  have hc := insn_c k ev1 l hl
  obtain ⟨out, ho⟩ : ∃ out, out = insnIx ev1 l 0 := ⟨_, rfl⟩
  rw [← ho] at hc ⊢
  simp only [hap, Kn.row, ev1, Ev.row, List.cons_append, List.nil_append] at hc
  simp only [go_sem,hap,Kn.row,ev1,Ev.row,List.cons_append,List.nil_append]
  refine rK_use (Go.AM.enters_of Tryz.func60 rfl (by decide)) (ACalls.pure_use hc (by simp [AV.lt, ltL]) rfl) ?_
  simp only [go_sem]
  exact finv rfl ⟨rfl, rfl⟩ _
theorem k1_sz : k1.Sz := ⟨by decide, by decide, by decide, by decide, by decide, by decide⟩
theorem fires1_c : ACalls Tryz.prog 23 [k1.av, ev1.av] [] (fun o H => o = .ret (.tuple [.view false 1 ([39, 41].map r1), iv 0]) ∧ H = []) := by
  refine ACalls.up ?_
  refine ACalls.intro (cs := []) (n := 26) Tryz.func23 rfl rfl rfl (by kernel_rfl) rfl ?_
  have hL := list_c k1 k1_sz
  have hr : (listR k1).2 = 0 := by kernel_rfl
  have hn : (listR k1).1.length ≤ 2000 := Nat.le_of_ble_eq_true (by kernel_rfl)
  have ho : insnIx ev1 (listR k1).1 0 = [39, 41] := by kernel_rfl
  rw [hr] at hL
  generalize (listR k1).1 = l at *
  have hf := fits1_c l
  have hd := fired1_c k1 l hn
  rw [ho] at hd
  generalize k1 = k at *
  simp only [hap, Kn.row, Kn.av, ev1, Ev.row, List.cons_append, List.nil_append] at hf hd hL
  simp only [go_sem,Kn.av,Kn.row,ev1,Ev.row,Ev.av]
  refine rK_use (Go.AM.enters_of Tryz.func17 rfl (by decide)) (ACalls.pure_use hL (by simp [AV.lt, ltL]) rfl) ?_
  simp only [go_sem]
  refine rK_use (Go.AM.enters_of Tryz.func37 rfl (by decide)) (ACalls.pure_use hf (by simp [AV.lt, ltL]) rfl) ?_
  simp only [go_sem]
  refine rK_use (Go.AM.enters_of Tryz.func38 rfl (by decide)) (ACalls.pure_use hd (by simp [AV.lt, ltL]) rfl) ?_
  simp only [go_sem]
  exact finv rfl ⟨rfl, rfl⟩ _
end Go.Proofs.YtigmnlnomhjecaaGreatDoor
set_option maxRecDepth 100000
set_option linter.unusedVariables false
set_option linter.unusedSimpArgs false
namespace Go.Proofs.YtigmnlnomhjecaaGreatDoor
open Go.AM
open Go.Glob (Bs Dsc)
theorem gl_at (b s : Bs) (v : Bool) (hs : Nat.ble s.length 1000000 = true) (h : Glob.gl b s = v) : ACalls Tryz.prog 10 [Sv b, Sv s] [] (fun o H => o = .ret (.bool v) ∧ H = []) := h ▸ glob_c b s (Nat.le_of_ble_eq_true hs)
theorem mt_at (a b : Bs) (v : Bool) (h : Glob.mtB a b = v) : ACalls Tryz.prog 12 [Sv a, Sv b] [] (fun o H => o = .ret (.bool v) ∧ H = []) := h ▸ meet_c a b
def dRead : Dsc := ⟨[], [], [114, 101, 97, 100], [101, 110, 116, 114, 121]⟩
theorem pd_at (s : Bs) (d : Dsc) (e : Int) (h : Glob.pdesc s = (d, e)) : ACalls Tryz.prog 21 [Sv s] [] (fun o H => o = .ret (.tuple [dv d, iv e]) ∧ H = []) := by
  have := pdesc_c s
  rw [h] at this
  exact this
theorem sane_c : ACalls Tryz.prog 9 [] [] (fun o H => o = .ret (.bool true) ∧ H = []) := by
  refine ACalls.up ?_
  refine ACalls.intro (cs := []) (n := 140) Tryz.func9 rfl rfl rfl (by kernel_rfl) rfl ?_
  simp only [go_sem]
  refine rK_use (Go.AM.enters_of Tryz.func10 rfl (by decide)) (ACalls.pure_use (gl_at [102, 42, 111] [102, 111, 111] true (by kernel_rfl) (by kernel_rfl)) rfl rfl) ?_
  simp only [go_sem]
  refine rK_use (Go.AM.enters_of Tryz.func10 rfl (by decide)) (ACalls.pure_use (gl_at [102, 42, 111] [102, 111] true (by kernel_rfl) (by kernel_rfl)) rfl rfl) ?_
  simp only [go_sem]
  refine rK_use (Go.AM.enters_of Tryz.func10 rfl (by decide)) (ACalls.pure_use (gl_at [102, 63, 111] [102, 111] false (by kernel_rfl) (by kernel_rfl)) rfl rfl) ?_
  simp only [go_sem]
  refine rK_use (Go.AM.enters_of Tryz.func10 rfl (by decide)) (ACalls.pure_use (gl_at [91, 97, 45, 99, 93, 120] [98, 120] true (by kernel_rfl) (by kernel_rfl)) rfl rfl) ?_
  simp only [go_sem]
  refine rK_use (Go.AM.enters_of Tryz.func10 rfl (by decide)) (ACalls.pure_use (gl_at [91, 33, 97, 45, 99, 93, 120] [98, 120] false (by kernel_rfl) (by kernel_rfl)) rfl rfl) ?_
  simp only [go_sem]
  refine rK_use (Go.AM.enters_of Tryz.func10 rfl (by decide)) (ACalls.pure_use (gl_at [91, 93] [97] false (by kernel_rfl) (by kernel_rfl)) rfl rfl) ?_
  simp only [go_sem]
  refine rK_use (Go.AM.enters_of Tryz.func10 rfl (by decide)) (ACalls.pure_use (gl_at [] [97, 110, 121, 116, 104, 105, 110, 103] true (by kernel_rfl) (by kernel_rfl)) rfl rfl) ?_
  simp only [go_sem]
  refine rK_use (Go.AM.enters_of Tryz.func10 rfl (by decide)) (ACalls.pure_use (gl_at [92, 42] [42] true (by kernel_rfl) (by kernel_rfl)) rfl rfl) ?_
  simp only [go_sem]
  refine rK_use (Go.AM.enters_of Tryz.func10 rfl (by decide)) (ACalls.pure_use (gl_at [92, 42] [97] false (by kernel_rfl) (by kernel_rfl)) rfl rfl) ?_
  simp only [go_sem]
  refine rK_use (Go.AM.enters_of Tryz.func12 rfl (by decide)) (ACalls.pure_use (mt_at [97, 42] [42, 98] true (by kernel_rfl)) rfl rfl) ?_
  simp only [go_sem]
  refine rK_use (Go.AM.enters_of Tryz.func12 rfl (by decide)) (ACalls.pure_use (mt_at [97, 63] [97, 98, 99] false (by kernel_rfl)) rfl rfl) ?_
  simp only [go_sem]
  refine rK_use (Go.AM.enters_of Tryz.func12 rfl (by decide)) (ACalls.pure_use (mt_at [91, 97, 45, 99, 93] [91, 100, 45, 102, 93] false (by kernel_rfl)) rfl rfl) ?_
  simp only [go_sem]
  refine rK_use (Go.AM.enters_of Tryz.func21 rfl (by decide)) (ACalls.pure_use (pd_at [114, 101, 97, 100, 58, 101, 110, 116, 114, 121] dRead 0 (by kernel_rfl)) rfl rfl) ?_
  simp only [go_sem,dv,dcs]
  refine rK_use (Go.AM.enters_of Tryz.func21 rfl (by decide)) (ACalls.pure_use (pd_at [97, 58, 98, 58, 99, 58, 100, 58, 101] Glob.d0 100 (by kernel_rfl)) rfl rfl) ?_
  simp only [go_sem,dv,dcs]
  have hone := one_c
  have hL := list_c k1 k1_sz
  have hF := fires1_c
  have hr : (listR k1).2 = 0 := by kernel_rfl
  have hn : (listR k1).1.length = 42 := by kernel_rfl
  obtain ⟨p37, h37, f37⟩ : ∃ p, (listR k1).1[37]? = some p ∧ p.d.f = [48] := ⟨_, rfl, by kernel_rfl⟩
  obtain ⟨p38, h38, f38⟩ : ∃ p, (listR k1).1[38]? = some p ∧ p.d.n = [101, 110, 116, 114, 121] := ⟨_, rfl, by kernel_rfl⟩
  obtain ⟨p41, h41, f41⟩ : ∃ p, (listR k1).1[41]? = some p ∧ p.at_ = 1 := ⟨_, rfl, by kernel_rfl⟩
  rw [hr] at hL
  generalize (listR k1).1 = l at *
  generalize k1 = k at *
  have g37 : (l.map Pb.row)[37]? = some p37.row := by rw [List.getElem?_map, h37]; rfl
  have g38 : (l.map Pb.row)[38]? = some p38.row := by rw [List.getElem?_map, h38]; rfl
  have g41 : (l.map Pb.row)[41]? = some p41.row := by rw [List.getElem?_map, h41]; rfl
  have hl : (l.map Pb.row).length = 42 := by rw [List.length_map, hn]
  simp only [Kn.av, Kn.row, ev1, Ev.av, Ev.row] at hone hL hF
  refine rK_use (Go.AM.enters_of Tryz.func22 rfl (by decide)) (ACalls.pure_use (hone) rfl rfl) ?_
  simp only [go_sem]
  refine rK_use (Go.AM.enters_of Tryz.func17 rfl (by decide)) (ACalls.pure_use (hL) rfl rfl) ?_
  simp only [go_sem]
  refine rK_use (Go.AM.enters_of Tryz.func23 rfl (by decide)) (ACalls.pure_use (hF) rfl rfl) ?_
  simp only [go_sem,hl,g37,g38,g41,Pb.row,f37,f38,f41,dRead,beq_self_eq_true]
  exact finv rfl ⟨rfl, rfl⟩ _
end Go.Proofs.YtigmnlnomhjecaaGreatDoor
set_option maxRecDepth 100000
set_option linter.unusedVariables false
set_option linter.unusedSimpArgs false
namespace Go.Proofs.YtigmnlnomhjecaaGreatDoor
open Go.AM
open Go.Glob (Bs EK El)
def pos (s r : Bs) : Nat := s.length - r.length
end Go.Proofs.YtigmnlnomhjecaaGreatDoor
set_option maxRecDepth 100000
set_option linter.unusedVariables false
set_option linter.unusedSimpArgs false
namespace Go.Proofs.YtigmnlnomhjecaaGreatDoor
open Go.AM
open Go.Glob (Bs EK El)
def tb (n : Nat) (v : Nat → Bool) : List (List AV) := (List.range n).map fun i => [AV.bool (v i)]
end Go.Proofs.YtigmnlnomhjecaaGreatDoor
set_option maxRecDepth 100000
set_option linter.unusedVariables false
set_option linter.unusedSimpArgs false
namespace Go.Proofs.YtigmnlnomhjecaaGreatDoor
open Go.AM
open Go.Glob (Bs EK El)
def cr (n m q : Nat) (v : Nat → Nat → Bool) : List (List AV) := (List.range (n + 1)).map fun j => [if j < q then .view true 0 [] else .view false 1 (tb (m + 1) (v j))]
end Go.Proofs.YtigmnlnomhjecaaGreatDoor
set_option maxRecDepth 100000
set_option linter.unusedVariables false
set_option linter.unusedSimpArgs false
namespace Go.Proofs.YtigmnlnomhjecaaGreatDoor
open Go.AM
open Go.Glob (Bs EK El Dsc)
def layJ : Go.Shelf.Ren := ⟨fun | 156 => 34 | 165 => 52 | 166 => 53 | 169 => 54 | 240 => 78 | 241 => 79 | 276 => 99 | 277 => 100 | n => n, fun | 31 => 95 | 9 => 9 | 3 => 3 | 4 => 4 | 0 => 0 | 20 => 20 | 72 => 136 | 76 => 140 | 70 => 134 | 37 => 97 | 75 => 139 | 127 => 183 | 164 => 211 | 5 => 5 | 80 => 142 | n => n, fun n => n⟩
theorem layJoin : Lays.n156 Tryz.prog layJ where
  mixed := by kernel_rfl
  f156 := Tryz.func34.trans (congrArg some (by kernel_rfl))
  f165 := Tryz.func52.trans (congrArg some (by kernel_rfl))
  f166 := Tryz.func53.trans (congrArg some (by kernel_rfl))
  f169 := Tryz.func54.trans (congrArg some (by kernel_rfl))
  f240 := Tryz.func78.trans (congrArg some (by kernel_rfl))
  f241 := Tryz.func79.trans (congrArg some (by kernel_rfl))
  f276 := Tryz.func99.trans (congrArg some (by kernel_rfl))
  f277 := Tryz.func100.trans (congrArg some (by kernel_rfl))
  t0 := Tryz.underlying0
  a0 := Tryz.isAgg0
  z0 := Tryz.sizeOf0
  v0 := Tryz.zeroValue0
  t3 := Tryz.underlying3
  a3 := Tryz.isAgg3
  z3 := Tryz.sizeOf3
  v3 := Tryz.zeroValue3
  t4 := Tryz.underlying4
  a4 := Tryz.isAgg4
  z4 := Tryz.sizeOf4
  v4 := Tryz.zeroValue4
  t9 := Tryz.underlying9
  a9 := Tryz.isAgg9
  z9 := Tryz.sizeOf9
  v9 := Tryz.zeroValue9
  t20 := Tryz.underlying20
  a20 := Tryz.isAgg20
  z20 := Tryz.sizeOf20
  v20 := Tryz.zeroValue20
  t31 := Tryz.underlying95
  a31 := Tryz.isAgg95
  z31 := Tryz.sizeOf95
  v31 := Tryz.zeroValue95
  t37 := Tryz.underlying97
  a37 := Tryz.isAgg97
  z37 := Tryz.sizeOf97
  v37 := Tryz.zeroValue97
  t70 := Tryz.underlying134
  a70 := Tryz.isAgg134
  z70 := Tryz.sizeOf134
  v70 := Tryz.zeroValue134
  t72 := Tryz.underlying136
  a72 := Tryz.isAgg136
  z72 := Tryz.sizeOf136
  v72 := Tryz.zeroValue136
  t75 := Tryz.underlying139
  a75 := Tryz.isAgg139
  z75 := Tryz.sizeOf139
  v75 := Tryz.zeroValue139
  t76 := Tryz.underlying140
  a76 := Tryz.isAgg140
  z76 := Tryz.sizeOf140
  v76 := Tryz.zeroValue140
  t127 := Tryz.underlying183
  a127 := Tryz.isAgg183
  z127 := Tryz.sizeOf183
  v127 := Tryz.zeroValue183
  t164 := Tryz.underlying211
  a164 := Tryz.isAgg211
  z164 := Tryz.sizeOf211
  v164 := Tryz.zeroValue211
theorem layJ_f : layJ.f 156 = 34 := rfl
theorem extJ : Builder.Extra Tryz.prog layJ where
  sizeBuilder := by kernel_rfl
  liesBuilder := by kernel_rfl
  t5 := Tryz.underlying5
  a5 := Tryz.isAgg5
  z5 := Tryz.sizeOf5
  v5 := Tryz.zeroValue5
  infoByte := by kernel_rfl
  cellsByte := by kernel_rfl
  sizeByte := by kernel_rfl
  neB5 := by decide
theorem Rel.below {sn : Snap} {ρ : Env} {w w' : World} (h : Rel sn ρ [] w) (hb : Go.RowKit.Below w.heap.size w w') : Rel sn ρ [] w' ∧ Ext sn ρ [] w sn ρ [] w' := by
  have fr : ∀ b o, w.heap[b]? = some o → w'.heap[b]? = some o := fun b o hq => by rw [hb.block b (Array.getElem?_eq_some_iff.1 hq).1]; exact hq
  refine ⟨⟨h.gl, fun b o hq => fr b o (h.snap b o hq), fun r blk p h1 h2 h3 => by simp at h1, h.inj, h.top⟩, ⟨fun _ _ h => h, fun _ _ => rfl, Nat.le_refl _, fun _ _ h => h, hb.size, hb.os, hb.tape, hb.output, fun b hq _ => hb.block b hq, fun b hq => absurd rfl hq, fun b hq => .inr hq⟩⟩
theorem ACalls.ofBelow {P : Program} {f : FuncId} {args : List AV} {v : AV} (h : ∀ (sn : Snap) (ρ : Env) (w : World) (vs : Array Value), Rel sn ρ [] w → VRs sn ρ args vs.toList →
    ∃ cv, VR sn ρ v cv ∧ Calls P f vs w fun e w' => e = .returned cv ∧ Go.RowKit.Below w.heap.size w w') : ACalls P f args [] (fun o H2 => o = .ret v ∧ H2 = []) := by
  intro sn ρ w vs hR hv
  obtain ⟨cv, h1, h2⟩ := h sn ρ w vs hR hv
  refine h2.mono ?_
  rintro e w' ⟨rfl, hb⟩
  exact ⟨sn, ρ, [], .ret v, h1, (Rel.below hR hb).1, (Rel.below hR hb).2, rfl, rfl⟩
theorem join4_c (l : List Bs) (h0 : l ≠ []) (hl : l.length ≤ 1000) (hj : (Lib.join l [58]).length ≤ 140737488355328) (full : Bool) : ACalls Tryz.prog 34 [.view full 1 (l.map rs1), Sv [58]] [] (fun o H => o = .ret (Sv (Lib.join l [58])) ∧ H = []) := by
  refine ACalls.ofBelow fun sn ρ w vs hR hv => ?_
  obtain ⟨l0⟩ := vs
  obtain ⟨hlen, hvs⟩ := hv
  match l0, hlen, hvs with
  | [u, v], _, hvs =>
    have hu := hvs 0 _ u rfl rfl
    have hv := hvs 1 _ v rfl rfl
    cases hv
    cases hu with
    | view _ _ _ _ a b o c vals hlc hm hf ha hz hc ho hr =>
    have hne : l.map rs1 ≠ [] := by simpa using h0
    obtain rfl := ha hne
    have hx : ∀ (i : Nat) x, l[i]? = some x → w.cell? ⟨b, o + i, none⟩ = some (.string ⟨x.toArray⟩) := fun i x hi => by
      have hri : (l.map rs1)[i]? = some (rs1 x) := by rw [List.getElem?_map, hi]; rfl
      have h1 := hc i _ hri 0 _ rfl
      have h2 := hr i _ hri 0 _ rfl
      generalize vals i 0 = y at h1 h2
      cases h2
      have := Rel.scell hR h1
      simpa using this
    have hbk : b < w.heap.size := by
      cases l with
      | nil => exact absurd rfl h0
      | cons x l =>
        have := hx 0 x rfl
        unfold World.cell? at this
        by_cases hb : b < w.heap.size
        · exact hb
        · simp [Array.getElem?_eq_none (Nat.le_of_not_lt hb)] at this
    have hcc := Any.strings_Join layJoin extJ b o c (l.map fun x => (⟨x.toArray⟩ : ByteArray)) ⟨#[58]⟩ w (fun j x hj => by
      rw [List.getElem?_map, Option.map_eq_some_iff] at hj
      obtain ⟨y, hy, rfl⟩ := hj
      exact hx j y hy) hbk (by simp; omega) (by simpa using hlc) (by simpa [Function.comp_def] using hj)
    refine ⟨.string ⟨(Lib.join l [58]).toArray⟩, .str _ _, ?_⟩
    have e1 : (l.map fun x => (⟨x.toArray⟩ : ByteArray)).map (·.data.toList) = l := by simp [Function.comp_def]
    have e2 : (⟨#[58]⟩ : ByteArray).data.toList = [58] := rfl
    rw [e1, e2, List.length_map, layJ_f] at hcc
    rw [List.length_map]
    exact hcc
theorem join_lib : ∀ (l : List Bs), Lib.join l [58] = Glob.join l
  | [] => rfl
  | [a] => by rw [Lib.join_one]; rfl
  | a :: b :: l => by
    rw [Lib.join_cons, Glob.join, ← join_lib (b :: l), Lib.join_cons]
    simp [Lib.joinTail]
theorem text_c (d : Dsc) (hj : (Glob.join d.l).length ≤ 100000000) : ACalls Tryz.prog 20 [dv d] [] (fun o H => o = .ret (.tuple [Sv (Glob.text d).1, iv (Glob.text d).2]) ∧ H = []) := by
  refine ACalls.up ?_
  refine ACalls.intro (cs := []) (n := 24) Tryz.func20 rfl rfl rfl (by kernel_rfl) rfl ?_
  generalize hpost : (fun (o : Out) (H : Heap) => o = Out.ret (.tuple [Sv (Glob.text d).1, iv (Glob.text d).2]) ∧ H = []) = post
  have fin : ∀ b n H, (b, n) = Glob.text d → Up 0 post (.ret (.tuple [Sv b, iv n])) H := fun b n H h => finv rfl (by rw [← hpost, ← h]; exact ⟨rfl, rfl⟩) H
  have hjo := join4_c d.l (by simp [Dsc.l]) (by simp [Dsc.l]) (by rw [join_lib]; omega) false
  rw [join_lib] at hjo
  have hval := dvalid_c d
  have hj2 : iw .i64 0 = 0 := rfl
  simp only [go_sem,dv,dcs]
  refine rK_use (Go.AM.enters_of Tryz.func34 rfl (by decide)) (ACalls.lend 1 (v := Sv (Glob.join d.l)) rfl rfl (by simp [AV.lt]) (by simp [fzOkL, AV.fzOk]) (by simp [fzL, AV.fz, ltL, AV.lt]) hjo) ?_
  simp only [dv, dcs] at hval
  simp only [go_sem]
  refine rK_use (Go.AM.enters_of Tryz.func33 rfl (by decide)) (ACalls.pure_use (hval) rfl rfl) ?_
  cases hok : d.ok with
  | false =>
    simp only [go_sem]
    exact fin [] 100 _ (by rw [Glob.text, if_neg (by simp [hok])])
  | true =>
    simp only [go_sem,List.size_toArray]
    refine condD_dec (fun hd => ?_) (fun hd => ?_)
    · simp only [go_sem]
      exact fin [] 100 _ (by rw [Glob.text, if_neg (by simp; omega)])
    · simp only [go_sem]
      exact fin _ 0 _ (by rw [Glob.text, if_pos ⟨hok, by omega⟩])
end Go.Proofs.YtigmnlnomhjecaaGreatDoor
set_option maxRecDepth 100000
set_option linter.unusedVariables false
set_option linter.unusedSimpArgs false
namespace Go.Proofs.YtigmnlnomhjecaaGreatDoor
open Go.AM
open Go.Glob (Bs EK El Dsc)
theorem pdesc_short {s : Bs} (h : (Glob.pdesc s).2 = 0) : (Glob.join (Glob.pdesc s).1.l).length ≤ 204 := by
  by_cases h1 : 200 < s.length
  · rw [pdesc_big h1] at h; cases h
  by_cases h2 : 4 < (Glob.dvd s).length
  · rw [pdesc_many h1 h2] at h; cases h
  rw [pdesc_few h1 h2] at h ⊢
  split at h
  · rename_i hok
    rw [if_pos hok]
    have hl : (Glob.pad (Glob.dvd s)).length = 4 := by simp [Glob.pad]; omega
    simp only
    rw [Glob.l_dsc hl, Glob.join_pad]
    simp
    omega
  · cases h
theorem ProbeTexts_c (d : Dsc) (hj : (Glob.join d.l).length ≤ 100000000) (s : Bs) : ACalls Tryz.prog 8 [dv d, Sv s] [] (fun o H => o = .ret (.bool true) ∧ H = []) := by
  refine ACalls.up ?_
  refine ACalls.intro (cs := [7]) (n := 72) Tryz.func8 rfl rfl rfl (by kernel_rfl) rfl ?_
  generalize hpost : (fun (o : Out) (H : Heap) => o = Out.ret (.bool true) ∧ H = []) = post
  have fin : ∀ H, Up 0 post (.ret (.bool true)) H := fun H => finv rfl (by rw [← hpost]; exact ⟨rfl, rfl⟩) H
  have ht := text_c d hj
  simp only [dv, dcs] at ht
  simp only [go_sem,dv,dcs]
  refine rK_use (Go.AM.enters_of Tryz.func9 rfl (by decide)) (ACalls.pure_use (sane_c) rfl rfl) ?_
  simp only [go_sem]
  refine rK_use (Go.AM.enters_of Tryz.func20 rfl (by decide)) (ACalls.pure_use (ht) rfl rfl) ?_
  simp only [go_sem]
  refine seq_cut (fun _ : Unit => (Ch.nil.put 1 (Sv s)).put 5 (.bool true)) (fun _ => []) (fun _ => True) (by kernel_rfl) ?_ ?_
  · intro K hK
    simp only [go_sem]
    refine condD_dec (fun h0 => ?_) (fun h0 => ?_)
    · have hp := pdesc_c (Glob.text d).1
      rw [Glob.pdesc_text h0] at hp
      simp only [dv, dcs] at hp
      simp only [go_sem]
      refine rK_use (Go.AM.enters_of Tryz.func21 rfl (by decide)) (ACalls.pure_use (hp) rfl rfl) ?_
      simp only [go_sem,beq_self_eq_true]
      exact hK () _ _ trivial (Wk.drop (m := 0) (by simp [wkS, Ch.get]) (by simp) (by simp) (by simp [chLt, AV.lt]) rfl (by simp))
    · simp only [go_sem]
      exact hK () _ _ trivial (Wk.drop (m := 0) (by simp [wkS, Ch.get]) (by simp) (by simp) (by simp [chLt, AV.lt]) rfl (by simp))
  rintro _ _
  have hp := pdesc_c s
  simp only [go_sem]
  simp only [dv, dcs] at hp
  refine rK_use (Go.AM.enters_of Tryz.func21 rfl (by decide)) (ACalls.pure_use (hp) rfl rfl) ?_
  simp only [go_sem]
  by_cases hg : (Glob.pdesc s).2 = 0
  case neg =>
    simp only [go_sem,hg]
    exact fin _
  have ht2 := text_c (Glob.pdesc s).1 (by have := pdesc_short hg; omega)
  simp only [dv, dcs] at ht2
  obtain ⟨k1, k2⟩ := Glob.text_pdesc hg
  simp only [go_sem,eq_true hg,hg]
  refine rK_use (Go.AM.enters_of Tryz.func20 rfl (by decide)) (ACalls.pure_use (ht2) rfl rfl) ?_
  simp only [go_sem]
  by_cases hh : (Glob.text (Glob.pdesc s).1).2 = 0
  · obtain ⟨n, hn⟩ := k1 hh
    have hsl : s.length ≤ 200 := by
      by_cases h1 : 200 < s.length
      · rw [pdesc_big h1] at hg; cases hg
      · omega
    have hul : (Glob.text (Glob.pdesc s).1).1.length = n + s.length := by rw [hn]; simp
    have hle : (s.length : Int) ≤ ((Glob.text (Glob.pdesc s).1).1.length : Int) := by omega
    have htl : (Glob.text (Glob.pdesc s).1).1.length ≤ 204 := by
      have := pdesc_short hg
      rw [Glob.text]
      split
      · exact this
      · simp
    have e1 : iw .i64 (((Glob.text (Glob.pdesc s).1).1.length : Int) - (s.length : Int)) = ((n : Nat) : Int) := by rw [iw64] <;> omega
    have b1 : (0 : Int) ≤ ((n : Nat) : Int) ∧ ((n : Nat) : Int) ≤ ((Glob.text (Glob.pdesc s).1).1.length : Int) := by omega
    have hcut : List.take ((Glob.text (Glob.pdesc s).1).1.length - n) (List.drop n (Glob.text (Glob.pdesc s).1).1) = s := by
      rw [hul, hn, List.drop_append_of_le_length (by simp)]
      simp
    simp only [go_sem,hh,List.size_toArray,eq_true hle,e1,b1,bex,bsz,hcut,beq_self_eq_true]
    exact fin _
  · have hlt : (190 : Int) < (s.length : Int) := by have := k2 hh; omega
    simp only [go_sem,hh,List.size_toArray,eq_true hlt]
    exact fin _
end Go.Proofs.YtigmnlnomhjecaaGreatDoor
set_option maxRecDepth 100000
set_option linter.unusedVariables false
set_option linter.unusedSimpArgs false
namespace Go.Proofs.YtigmnlnomhjecaaGreatDoor
open Go.AM
open Go.ChangeShapes Go.WideShapes Go.ChangeAt Go.RowKit
open Go.Glob (Bs Dsc)
section
variable {P : Program} {w : World} {fuel : Nat} {t e : TypeId} {cs : List Value} {p : List MemPlace}
abbrev ltr (P : Program) (w : World) (fuel : Nat) (t : TypeId) (cs : List Value) (d : DataW Unit) (p : List MemPlace) : Prop := DataW.trod (fun _ => ()) P w 0 (fun _ => true) false fuel t cs = some (d, p)
theorem ltr_str {b : Bs} (ht : P.underlying t = some .string) (h : ltr P w fuel t cs (.lit (.string b)) p) : cs = [.string ⟨b.toArray⟩] := by
  obtain ⟨s, rfl, hx, _⟩ := DataW.trod_string ht h
  simp only [Prod.mk.injEq, DataW.lit.injEq, Lit.string.injEq] at hx
  rw [hx.1]
theorem ltr_int {k k' : IntKind} {n : Int} (ht : P.underlying t = some (.int k)) (h : ltr P w fuel t cs (.lit (.int k' n)) p) : cs = [.int k n] := by
  obtain ⟨z, rfl, hx, _⟩ := DataW.trod_int ht h
  simp only [Prod.mk.injEq, DataW.lit.injEq, Lit.int.injEq] at hx
  rw [hx.1.2]
theorem chunkF {α β : Type} (V : β → List α) (m : Nat) (hV : ∀ x, (V x).length = m) : ∀ (L : List β) (cs : List α), cs.length = L.length * m → (∀ (i : Nat) x, L[i]? = some x → (cs.drop (i * m)).take m = V x) → cs = L.flatMap V
  | [], cs, h, _ => by simpa using h
  | x :: L, cs, hn, h => by
    have h0 := h 0 x rfl
    simp at h0
    have ih := chunkF V m hV L (cs.drop m) (by simp [hn, Nat.add_mul]) (fun i y hy => by
      have := h (i + 1) y (by simpa using hy)
      rw [List.drop_drop, show m + i * m = (i + 1) * m by rw [Nat.add_mul]; omega]
      exact this)
    rw [List.flatMap_cons, ← ih, ← h0, List.take_append_drop]
theorem ltr_arr {n m : Nat} {α : Type} (L : List α) (D : α → DataW Unit) (V : α → List Value) (ht : P.underlying t = some (.array n e)) (hm : P.cellsOf e = m) (hc : P.cellsOf t = n * m) (hV : ∀ x, (V x).length = m) (hn : L.length = n)
    (hE : ∀ x fuel cs p, ltr P w fuel e cs (D x) p → cs = V x) (h : ltr P w fuel t cs (.agg (L.map D)) p) : cs = L.flatMap V := by
  obtain ⟨xs, k, _, ex, hl, hxl, hel⟩ := DataW.trod_array ht h
  have e3 : L.map D = xs.map (·.1) := DataW.agg.inj (Prod.mk.inj ex).1
  refine chunkF V m hV L cs (by rw [hl, hc, hn]) fun i x hx => ?_
  have hil := (List.getElem?_eq_some_iff.1 hx).1
  have hE1 := hel i (by omega)
  rw [hm, List.getElem?_eq_getElem (by omega)] at hE1
  have hx1 : xs[i].1 = D x := by
    have := congrArg (fun l => l[i]?) e3
    simp only [List.getElem?_map, hx, List.getElem?_eq_getElem (show i < xs.length by omega), Option.map_some, Option.some.injEq] at this
    exact this.symm
  refine hE x k _ xs[i].2 ?_
  rw [ltr, hE1, ← hx1]
theorem laid_var {name : String} {d : DataW Unit} {r : List (String × DataW Unit)} {ps : List MemPlace} {g : Nat} {vs : List Value} (hg : P.globalNamed name = some g) (hty : (P.globals[g]?).map (·.type) = some t)
    (hE : ∀ fuel cs p, ltr P w fuel t cs d p → cs = vs) (h : DataW.LaidVars P w ((name, d) :: r) ps) : (∃ q, DataW.LaidVars P w r q) ∧ ∃ c t f, snapAll w g = some (.cells c t f) ∧ c.toList = vs := by
  obtain ⟨g', t', cs, fuel, p, q, hg', ht', hv, hd, hr, _⟩ := h
  obtain rfl := Option.some.inj (hg.symm.trans hg')
  obtain rfl := Option.some.inj (hty.symm.trans ht')
  have hcs := hE _ _ _ hd
  refine ⟨⟨q, hr⟩, ?_⟩
  rw [World.var?, hg, Option.bind_some] at hv
  unfold snapAll
  split at hv
  · rename_i c t f hh
    cases hv
    exact ⟨_, t, f, hh, hcs⟩
  · cases hv
end
def intV (k : IntKind) (z : Int) : List Value := [.int k z]
def intD (k : IntKind) (z : Int) : DataW Unit := .lit (.int k z)
def strV (s : Bs) : List Value := [.string ⟨s.toArray⟩]
def strD (s : Bs) : DataW Unit := .lit (.string s)
def kdD (x : Bs × Int) : DataW Unit := .agg [.lit (.string x.1), .lit (.int .i64 x.2)]
def kdV (x : Bs × Int) : List Value := [.string ⟨x.1.toArray⟩, .int .i64 x.2]
def otD (x : Bs × Bs × Int) : DataW Unit := .agg [.lit (.string x.1), .lit (.string x.2.1), .lit (.int .i64 x.2.2)]
def otV (x : Bs × Bs × Int) : List Value := [.string ⟨x.1.toArray⟩, .string ⟨x.2.1.toArray⟩, .int .i64 x.2.2]
def intsOf : DataW Unit → List Int
  | .agg ds => ds.map fun | .lit (.int _ n) => n | _ => 0
  | _ => []
def kdOf : DataW Unit → Bs × Int
  | .agg [.lit (.string s), .lit (.int _ n)] => (s, n)
  | _ => ([], 0)
def kd : List (Bs × Int) := match (Rows.laid_tapline_insn_kinds : DataW Unit) with
  | .agg ds => ds.map kdOf
  | _ => []
theorem two {α : Type} : ∀ {l : List α}, l.length = 2 → ∃ a b, l = [a, b]
  | [a, b], _ => ⟨a, b, rfl⟩
theorem three {α : Type} : ∀ {l : List α}, l.length = 3 → ∃ a b c, l = [a, b, c]
  | [a, b, c], _ => ⟨a, b, c, rfl⟩
theorem kd_elem {w : World} (x : Bs × Int) (fuel : Nat) (cs : List Value) (p : List MemPlace) (h : ltr Tryz.prog w fuel 230 cs (kdD x) p) : cs = kdV x := by
  obtain ⟨ys, n, _, ey, hyl, hys, hf⟩ := DataW.trod_struct Tryz.underlying230 h
  have f0 := hf 0 _ rfl
  have f1 := hf 1 _ rfl
  obtain ⟨y0, y1, rfl⟩ := two (show ys.length = 2 from hys)
  have e4 := DataW.agg.inj (Prod.mk.inj ey).1
  simp only [List.map_cons, List.map_nil, List.cons.injEq, and_true] at e4
  rw [show Tryz.prog.cellsOf 230 = 2 by kernel_rfl] at hyl
  obtain ⟨u, v, rfl⟩ := two hyl
  have g0 : ltr Tryz.prog w n 9 [u] (.lit (.string x.1)) y0.2 := by rw [e4.1]; exact f0
  have g1 : ltr Tryz.prog w n 3 [v] (.lit (.int .i64 x.2)) y1.2 := by rw [e4.2]; exact f1
  have s0 := ltr_str Tryz.underlying9 g0
  have s1 := ltr_int Tryz.underlying3 g1
  simp only [List.cons.injEq, and_true] at s0 s1
  rw [s0, s1]; rfl
theorem ot_elem {w : World} (x : Bs × Bs × Int) (fuel : Nat) (cs : List Value) (p : List MemPlace) (h : ltr Tryz.prog w fuel 130 cs (otD x) p) : cs = otV x := by
  obtain ⟨ys, n, _, ey, hyl, hys, hf⟩ := DataW.trod_struct Tryz.underlying130 h
  have f0 := hf 0 _ rfl
  have f1 := hf 1 _ rfl
  have f2 := hf 2 _ rfl
  obtain ⟨y0, y1, y2, rfl⟩ := three (show ys.length = 3 from hys)
  have e4 := DataW.agg.inj (Prod.mk.inj ey).1
  simp only [List.map_cons, List.map_nil, List.cons.injEq, and_true] at e4
  rw [show Tryz.prog.cellsOf 130 = 3 by kernel_rfl] at hyl
  obtain ⟨u, v, z, rfl⟩ := three hyl
  have g0 : ltr Tryz.prog w n 9 [u] (.lit (.string x.1)) y0.2 := by rw [e4.1]; exact f0
  have g1 : ltr Tryz.prog w n 9 [v] (.lit (.string x.2.1)) y1.2 := by rw [e4.2.1]; exact f1
  have g2 : ltr Tryz.prog w n 3 [z] (.lit (.int .i64 x.2.2)) y2.2 := by rw [e4.2.2]; exact f2
  have s0 := ltr_str Tryz.underlying9 g0
  have s1 := ltr_str Tryz.underlying9 g1
  have s2 := ltr_int Tryz.underlying3 g2
  simp only [List.cons.injEq, and_true] at s0 s1 s2
  rw [s0, s1, s2]; rfl
abbrev laid : List (String × DataW Unit) := [("math/bits.deBruijn32tab", Rows.laid_math_bits_deBruijn32tab), ("math/bits.deBruijn64tab", Rows.laid_math_bits_deBruijn64tab), ("internal/strconv.uint64pow10", Rows.laid_internal_strconv_uint64pow10), ("tapline/insn.kinds", Rows.laid_tapline_insn_kinds), ("tapline/probe.calls", Rows.laid_tapline_probe_calls), ("tapline/probe.others", Rows.laid_tapline_probe_others)]
theorem glok {W : World} (h : laidMetH Tryz.prog laid W) : GlOk (snapAll W) := by
  rw [MakeChecks.laidMetH_plain _ _ _ (by kernel_rfl)] at h
  obtain ⟨ps, h, _⟩ := h
  obtain ⟨⟨q1, h⟩, k1⟩ := laid_var (g := 5) (t := 246) (vs := (intsOf Rows.laid_math_bits_deBruijn32tab).flatMap (intV .u8)) (by kernel_rfl) (by kernel_rfl)
    (fun fuel cs p h => ltr_arr (intsOf Rows.laid_math_bits_deBruijn32tab) (intD .u8) (intV .u8) Tryz.underlying246 (show Tryz.prog.cellsOf 5 = 1 by kernel_rfl) (by kernel_rfl) (fun _ => rfl) (by kernel_rfl) (fun x fuel cs p h => ltr_int Tryz.underlying5 h) h) h
  obtain ⟨⟨q2, h⟩, k2⟩ := laid_var (g := 6) (t := 247) (vs := (intsOf Rows.laid_math_bits_deBruijn64tab).flatMap (intV .u8)) (by kernel_rfl) (by kernel_rfl)
    (fun fuel cs p h => ltr_arr (intsOf Rows.laid_math_bits_deBruijn64tab) (intD .u8) (intV .u8) Tryz.underlying247 (show Tryz.prog.cellsOf 5 = 1 by kernel_rfl) (by kernel_rfl) (fun _ => rfl) (by kernel_rfl) (fun x fuel cs p h => ltr_int Tryz.underlying5 h) h) h
  obtain ⟨⟨q3, h⟩, k3⟩ := laid_var (g := 3) (t := 239) (vs := (intsOf Rows.laid_internal_strconv_uint64pow10).flatMap (intV .u64)) (by kernel_rfl) (by kernel_rfl)
    (fun fuel cs p h => ltr_arr (intsOf Rows.laid_internal_strconv_uint64pow10) (intD .u64) (intV .u64) Tryz.underlying239 (show Tryz.prog.cellsOf 223 = 1 by kernel_rfl) (by kernel_rfl) (fun _ => rfl) (by kernel_rfl) (fun x fuel cs p h => ltr_int Tryz.underlying223 h) h) h
  obtain ⟨⟨q4, h⟩, k4⟩ := laid_var (g := 4) (t := 244) (vs := kd.flatMap kdV) (by kernel_rfl) (by kernel_rfl)
    (fun fuel cs p h => ltr_arr kd kdD kdV Tryz.underlying244 (show Tryz.prog.cellsOf 230 = 2 by kernel_rfl) (by kernel_rfl) (fun _ => rfl) (by kernel_rfl) kd_elem h) h
  obtain ⟨⟨q5, h⟩, k5⟩ := laid_var (g := 0) (t := 129) (vs := callN.flatMap strV) (by kernel_rfl) (by kernel_rfl)
    (fun fuel cs p h => ltr_arr callN strD strV Tryz.underlying129 (show Tryz.prog.cellsOf 9 = 1 by kernel_rfl) (by kernel_rfl) (fun _ => rfl) (by kernel_rfl) (fun x fuel cs p h => ltr_str Tryz.underlying9 h) h) h
  obtain ⟨⟨q6, h⟩, k6⟩ := laid_var (g := 1) (t := 131) (vs := othN.flatMap otV) (by kernel_rfl) (by kernel_rfl)
    (fun fuel cs p h => ltr_arr othN otD otV Tryz.underlying131 (show Tryz.prog.cellsOf 130 = 3 by kernel_rfl) (by kernel_rfl) (fun _ => rfl) (by kernel_rfl) ot_elem h) h
  have hgt : gtab = [(0, callN.flatMap strV), (1, othN.flatMap otV), (3, (intsOf Rows.laid_internal_strconv_uint64pow10).flatMap (intV .u64)), (4, kd.flatMap kdV), (5, (intsOf Rows.laid_math_bits_deBruijn32tab).flatMap (intV .u8)), (6, (intsOf Rows.laid_math_bits_deBruijn64tab).flatMap (intV .u8))] := by kernel_rfl
  intro x hx
  rw [hgt] at hx
  simp only [List.mem_cons, List.not_mem_nil, or_false] at hx
  rcases hx with rfl | rfl | rfl | rfl | rfl | rfl
  · exact k5
  · exact k6
  · exact k3
  · exact k4
  · exact k1
  · exact k2
theorem read_str {H : Type} {enc : TypeId × Value → H} {w : World} {v : Value} {d : DataW H} {p : List MemPlace} {base : Nat} (hv : Value.okWide Tryz.prog w .any base 9 v) (h : DataW.Trod enc Tryz.prog w 0 (fun _ => true) true 9 v d p) : ∃ s : Bs, VR (snapAll w) noEnv (Sv s) v ∧ s.length ≤ maxLen := by
  obtain ⟨s, rfl, _, _, hs⟩ := Go.ChangeMaps.open_string Tryz.underlying9 hv h
  exact ⟨s.data.toList, .str _ _, hs⟩
theorem lout : laidOutB Tryz.prog = true := by kernel_rfl
theorem own : ownKnob Tryz.prog.godebug = none := by kernel_rfl
theorem rd_ok {l : List TypeId} (h : (l.all fun t => Tryz.prog.readableRec t && decide (t < Tryz.prog.types.size)) = true) : ∀ t ∈ l, Tryz.prog.readableRec t = true ∧ t < Tryz.prog.types.size := fun t ht => by
  have := List.all_eq_true.1 h t ht
  simpa using this
end Go.Proofs.YtigmnlnomhjecaaGreatDoor
set_option maxRecDepth 100000
set_option linter.unusedVariables false
set_option linter.unusedSimpArgs false
namespace Go.Proofs.YtigmnlnomhjecaaGreatDoor
open Go.AM
open Go.ChangeShapes Go.WideShapes Go.ChangeAt Go.RowKit
open Go.Glob (Bs Dsc)
theorem flat4' {α : Type} {xss : List α} (h : xss.length = 4) : ∃ a b c d, xss = [a, b, c, d] := by
  match xss, h with
  | [a, b, c, d], _ => exact ⟨a, b, c, d, rfl⟩
theorem read_descz {H : Type} {enc : TypeId × Value → H} {w : World} {v : Value} {d : DataW H} {p : List MemPlace} {base : Nat} (hv : Value.okWide Tryz.prog w .any base 47 v) (h : DataW.Trod enc Tryz.prog w 0 (fun _ => true) true 47 v d p) :
    ∃ x : Dsc, VR (snapAll w) noEnv (dv x) v ∧ x.p.length + x.m.length + x.f.length + x.n.length ≤ Rows.uptoBulk d := by
  unfold Value.okWide at hv
  rw [Tryz.underlying47] at hv
  obtain ⟨cs, rfl, _⟩ := hv
  obtain ⟨n, hn⟩ := h
  obtain ⟨ys, k, _, ey, hyl, hys, hf⟩ := DataW.trod_struct Tryz.underlying47 hn
  have f0 := hf 0 _ rfl
  have f1 := hf 1 _ rfl
  have f2 := hf 2 _ rfl
  have f3 := hf 3 _ rfl
  obtain ⟨y0, y1, y2, y3, rfl⟩ := flat4' (show ys.length = 4 from hys)
  rw [show Tryz.prog.cellsOf 47 = 4 by kernel_rfl] at hyl
  obtain ⟨u0, u1, u2, u3, hu⟩ := flat4' hyl
  rw [hu] at f0 f1 f2 f3
  obtain ⟨s0, a0, b0, _⟩ := DataW.trod_string Tryz.underlying9 f0
  obtain ⟨s1, a1, b1, _⟩ := DataW.trod_string Tryz.underlying9 f1
  obtain ⟨s2, a2, b2, _⟩ := DataW.trod_string Tryz.underlying9 f2
  obtain ⟨s3, a3, b3, _⟩ := DataW.trod_string Tryz.underlying9 f3
  have c1 : Tryz.prog.cellsOf 9 = 1 := by kernel_rfl
  obtain rfl : u0 = .string s0 := by simpa [c1] using a0
  obtain rfl : u1 = .string s1 := by simpa [c1] using a1
  obtain rfl : u2 = .string s2 := by simpa [c1] using a2
  obtain rfl : u3 = .string s3 := by simpa [c1] using a3
  have hcs : cs = #[.string s0, .string s1, .string s2, .string s3] := by
    apply Array.toList_inj.1
    simpa [Value.cells] using hu
  subst hcs
  refine ⟨⟨s0.data.toList, s1.data.toList, s2.data.toList, s3.data.toList⟩, ?_, ?_⟩
  · refine .agg _ _ _ rfl fun i x y hx hy => ?_
    match i, hx, hy with
    | 0, hx, hy => cases hx; cases hy; exact .str _ _
    | 1, hx, hy => cases hx; cases hy; exact .str _ _
    | 2, hx, hy => cases hx; cases hy; exact .str _ _
    | 3, hx, hy => cases hx; cases hy; exact .str _ _
  · rw [(Prod.mk.inj ey).1, b0, b1, b2, b3]
    simp only [List.map_cons, List.map_nil, Rows.uptoBulk, Rows.uptoBulkAll]
    omega
theorem witness_row_sh {H : Type} {enc : TypeId × Value → H} {C : Checked} {os : Os} {f : FuncId} {fn : Func} {s : OpenSpec} {conds : List PathCond} {apart : Bool} {laid : List (String × DataW Unit)} (modest : Bool) (w0 : World) (args : Array Value) (hos : w0.os = os)
    (hsh : (w0.forCall (fun _ _ => 0) ⟨#[], args, []⟩).Shaped C.prog) (hok : Input.okWideB C.prog (w0.forCall (fun _ _ => 0) ⟨#[], args, []⟩) f ⟨#[], args, []⟩ = true)
    (hrow : s.preRow enc C.prog fn conds apart laid (w0.forCall (fun _ _ => 0) ⟨#[], args, []⟩).memory args) :
    ∃ (w : World) (tape : Tape) (i : Input), w.os = os ∧ (w.forCall tape i).Shaped C.prog ∧ i.vars = [] ∧ Input.okWide C.prog (w.forCall tape i) .any w.heap.size f i ∧
      s.preRow enc C.prog fn conds apart laid (w.forCall tape i).memory i.args ∧ ({ modest := modest } : Assume).holds C.prog (lone (Frame.enter C.prog f i.args .normal) [] (w.forCall tape i)) :=
  ⟨w0, fun _ _ => 0, ⟨#[], args, []⟩, hos, hsh, (Input.okWide_of_okWideB (base := 0) hok).1, (Input.okWide_of_okWideB hok).2, hrow, by
    simp only [Assume.holds]
    exact ⟨by simp, by simp, fun _ => Modest.zero, by simp, by simp⟩⟩
theorem bulk_one {H : Type} {d : DataW H} {r : List (DataW H)} {n : Nat} (h : Rows.uptoBulkAll (d :: r) ≤ n) : Rows.uptoBulk d ≤ n ∧ Rows.uptoBulkAll r ≤ n := by
  simp only [Rows.uptoBulkAll] at h
  omega
theorem small_le {H : Type} {l : List (DataW H)} (h : Rows.uptoSmall H l = true) : Rows.uptoBulkAll l ≤ 1048576 := of_decide_eq_true h
end Go.Proofs.YtigmnlnomhjecaaGreatDoor
set_option maxRecDepth 100000
set_option linter.unusedVariables false
set_option linter.unusedSimpArgs false
namespace Go.Proofs.YtigmnlnomhjecaaGreatDoor.probeTextsUpto
open Go.AM
open Go.ChangeShapes Go.WideShapes Go.ChangeAt Go.RowKit
theorem jn (d : Go.Glob.Dsc) (h : d.p.length + d.m.length + d.f.length + d.n.length ≤ 1048576) : (Go.Glob.join d.l).length ≤ 100000000 := by
  simp only [Go.Glob.Dsc.l, Go.Glob.join, List.length_append, List.length_cons]
  omega
theorem lifted (os : Os) (started : os.Started) (H : Type) (enc : TypeId × Value → H) (F : Stop.Interp) :
    ReturnsInHanded {} Tryz.checked os 8 .any ((Rows.OpenSpec.upto Rows.probeTextsSpec).preRow enc Tryz.prog Tryz.f8 Rows.probeTextsUptoRow.domain false laid)
      (((Rows.OpenSpec.upto Rows.probeTextsSpec).at F).post enc Tryz.prog Tryz.f8 false true false false) := by
  obtain ⟨places, hx⟩ : ∃ places, DataW.whole enc Tryz.prog ((World.laidAll Tryz.prog os laid).forCall (fun _ _ => 0) ⟨#[], #[.agg #[.string ⟨#[]⟩, .string ⟨#[]⟩, .string ⟨#[]⟩, .string ⟨#[]⟩], .string ⟨#[]⟩], []⟩).memory Tryz.f8.params.toList Rows.probeTextsSpec.vars false (#[.agg #[.string ⟨#[]⟩, .string ⟨#[]⟩, .string ⟨#[]⟩, .string ⟨#[]⟩], .string ⟨#[]⟩] : Array Value).toList 8 = some ([.agg [.lit (.string []), .lit (.string []), .lit (.string []), .lit (.string [])], .lit (.string [])], [], places) := ⟨[], by kernel_rfl⟩
  refine returnsInHanded_of_row (C := Tryz.checked) (s := Rows.OpenSpec.upto Rows.probeTextsSpec) own started (by kernel_rfl) Tryz.func8
    (witness_row_sh (enc := enc) (C := Tryz.checked) false (World.laidAll Tryz.prog os laid) #[.agg #[.string ⟨#[]⟩, .string ⟨#[]⟩, .string ⟨#[]⟩, .string ⟨#[]⟩], .string ⟨#[]⟩] (World.laidAll_os _ _ _) (World.shaped_of_ZipB (by kernel_rfl) (by kernel_rfl)) (by kernel_rfl)
      (OpenSpec.preRow_of_cond 8 hx (by kernel_rfl) (fun k hk => by cases hk; kernel_rfl) (by kernel_rfl) (by rw [MakeChecks.laidMetH_plain _ _ _ (by kernel_rfl)]; exact laidMet_laidAll _ (by kernel_rfl) (by kernel_rfl)))) ?_
  intro W base args ds gs before hval0 hW _ hcond _ hL _ _
  have hval : ∀ (j : Nat) t v, Tryz.f8.params[j]? = some t → args[j]? = some v → Value.okWide Tryz.prog W .any base t v := hval0
  have hW' : DataW.Whole enc Tryz.prog Tryz.f8.params.toList Rows.probeTextsSpec.vars false W args.toList ds gs before := hW
  obtain ⟨p, q, hA0, hV, rfl, hfz, hnd⟩ := hW
  have hA : DataW.TrodAll enc Tryz.prog W 0 (fun _ => true) true Tryz.f8.params.toList args.toList ds p := hA0
  rw [Tryz.params8] at hA hval
  obtain ⟨v0, vs0, d0, ds0, p0, q0, hargs, rfl, rfl, h0, t0⟩ := trodAll_cons hA
  obtain ⟨v1, vs1, d1, ds1, p1, q1, rfl, rfl, rfl, h1, t1⟩ := trodAll_cons t0
  obtain ⟨rfl, rfl, rfl⟩ := trodAll_nil t1
  obtain rfl : args = #[v0, v1] := by cases args; simp_all
  obtain ⟨d0, g0, z0⟩ := read_descz (hval 0 _ v0 rfl rfl) h0
  obtain ⟨s1, g1, w1⟩ := read_str (hval 1 _ v1 rfl rfl) h1
  refine law_contract (ProbeTexts_c d0 (jn d0 (Nat.le_trans z0 (bulk_one (small_le (hcond _ rfl))).1)) s1) hW' rfl rfl Tryz.underlying4 rfl lout ?_ (glok hL) (vrs_cons g0 (vrs_cons g1 vrs_nil))
  rw [Tryz.params8]
  exact rd_ok (by kernel_rfl)
theorem over : Rows.probeTextsUptoRow.holds Tryz.pinned (Rows.OpenSpec.upto Rows.probeTextsSpec) :=
  OpenClaim.holds_of_cond 8 Tryz.f8 rfl rfl rfl rfl rfl rfl rfl ⟨rfl, rfl, rfl, rfl, rfl⟩ rfl rfl rfl rfl rfl (by kernel_rfl) Tryz.func8 (by kernel_rfl)
    (of_decide_eq_true (by kernel_rfl)) (by unfold Func.isWrapper; first | (rw [if_pos (by decide +kernel)]; kernel_rfl) | (rw [if_neg (by decide +kernel)]; exact ⟨rfl, rfl⟩))
    (fun os started H enc _ F => by rw [OpenClaim.pre_eq_preRow]; exact lifted os started H enc F)
end Go.Proofs.YtigmnlnomhjecaaGreatDoor.probeTextsUpto
namespace Go.Proofs.YtigmnlnomhjecaaGreatDoor
open Go.ChangeShapes Go.WideShapes Go.ChangeAt Go.RowKit
theorem ProbeTextsUpto_holds : Rows.ProbeTextsUptoCardSaid :=
  Claim7.holds_tied_plain_at .later [] _ _ _ _ probeTextsUpto.over (fun _ h => by cases h) (by kernel_rfl) (fun _ h => by cases h) probeTextsUpto_row_tie rfl ⟨rfl, rfl⟩ (by kernel_rfl) rfl
    (fun f fn hf hfn => by
      obtain rfl : f = 8 := Option.some.inj ((show Tryz.prog.funcNamed "tapline/taplinelaw10.ProbeTexts" = some 8 by kernel_rfl).symm.trans hf) |>.symm
      obtain rfl : fn = Tryz.f8 := (Option.some.inj (Tryz.func8.symm.trans hfn)).symm
      exact ⟨by kernel_rfl, fun j t ht => by
        rw [Tryz.params8] at ht
        have hm : t ∈ [47, 9] := by simpa using Array.mem_of_getElem? ht
        have hall : ([47, 9].all fun u => !Tryz.prog.wantsStandIn u) = true := by kernel_rfl
        exact (show Tryz.prog.wantsStandIn t = false by simpa using List.all_eq_true.1 hall t hm)⟩)
    (by kernel_rfl)
end Go.Proofs.YtigmnlnomhjecaaGreatDoor
