/- cpu: the reference, what it is made of. No condition. -/
import Derived.Test.YtojfnagfafoiaaaDoorSG1
set_option maxRecDepth 100000
set_option linter.unusedVariables false
set_option linter.unusedSimpArgs false
namespace Go.Proofs.YtojfnagfafoiaaaDoor
open Go.AM
def trE (x : Ins) (r : Rg) (t : Trp) : Eff := ⟨r, 0, [], t, x⟩
theorem trapped_c (x : Ins) (r : Rg) (t : Trp) : ACalls Tryd.prog 56 [x.av, r.av, .agg t.cells] [] (fun o H => o = .ret (trE x r t).av ∧ H = []) := by
  refine ACalls.up ?_
  refine ACalls.intro (cs := []) (n := 11) Tryd.func56 rfl rfl rfl (by kernel_rfl) rfl ?_
  generalize hpost : (fun (o : Out) (H : Heap) => o = Out.ret (trE x r t).av ∧ H = []) = post
  have finN : ∀ (e : Eff) H, e = trE x r t → e.data = [] → Up 0 post (.ret (.agg (e.cellsD dnil))) H := fun e H h hd => .le (.ret (.agg (leL_dnil e))) (LeH.refl _) (finv (v := .agg (e.cellsD (dby []))) (by simp [Eff.cellsD, AV.lt, ltL]) (by rw [← hpost, ← h]; exact ⟨by rw [Eff.av, Eff.cells, hd], rfl⟩) _)
  simp only [go_sem,Nat.reduceAdd,Nat.reduceSub,Nat.reduceMul,Nat.reduceEqDiff,Nat.reduceLeDiff,Nat.reduceLT,↓reduceIte,Int.reduceToNat,reduceCtorEq,Int.reduceLT,Int.reduceLE,Int.reduceGT,Int.reduceGE,Int.reduceEq,Int.reduceNe,Int.reduceNeg,Int.reduceAdd,Int.reduceSub,Rg.av,Rg.cells,Ins.av,Ins.cells,Trp.cells]
  exact finN (trE x r t) _ rfl rfl
theorem rFault_c (s : Sp) (hs : s.ok) (l : List Acc) (hl : l.length ≤ 2) (hsz : ∀ a ∈ l, a.size = 1 ∨ a.size = 8) :
    ACalls Tryd.prog 55 [s.av, .view false 3 (l.map Acc.row)] [] (fun o H => o = .ret (.agg (ffault s l).cells) ∧ H = []) := by
  refine ACalls.up ?_
  refine ACalls.intro (cs := []) (n := 37) Tryd.func55 rfl rfl rfl (by kernel_rfl) rfl ?_
  generalize hpost : (fun (o : Out) (H : Heap) => o = Out.ret (.agg (ffault s l).cells) ∧ H = []) = post
  have fin : ∀ f H, f = ffault s l → Up 0 post (.ret (.agg [iv f.kind, iv f.pos])) H := fun f H e => finv (by simp [AV.lt, ltL]) (by rw [← hpost, e]; exact ⟨rfl, rfl⟩) H
  simp only [go_sem,Nat.reduceAdd,Nat.reduceSub,Nat.reduceMul,Nat.reduceEqDiff,Nat.reduceLeDiff,Nat.reduceLT,↓reduceIte,Int.reduceToNat,reduceCtorEq,Int.reduceLT,Int.reduceLE,Int.reduceGT,Int.reduceGE,Int.reduceEq,Int.reduceNe,Int.reduceNeg,Int.reduceAdd,Int.reduceSub,Sp.av]
  refine loop_fam (fun i : Nat => ((((Ch.nil.put 1 (.view false 3 (l.map Acc.row))).put 2 (.ptr 0 0 0)).put 4 (.ptr 1 0 0)).put 5 (iv i))) (fun _ => [.rows 2 [[.view false 1 (s.perm.map r1), .view false 1 (s.byt.map rb)]], .rows 2 [[iv 0, iv 0]]]) (fun i => l.length - i) (fun i => i ≤ l.length ∧ ffault s l = ffault s (l.drop i)) 0 (by kernel_rfl) ⟨Nat.zero_le _, rfl⟩
    (Wk.slots' rfl (by simp [wkS, Ch.get])) ?_
  rintro i ⟨hi, hf⟩ K hK
  simp only [go_sem,Nat.reduceAdd,Nat.reduceSub,Nat.reduceMul,Nat.reduceEqDiff,Nat.reduceLeDiff,Nat.reduceLT,↓reduceIte,Int.reduceToNat,reduceCtorEq,Int.reduceLT,Int.reduceLE,Int.reduceGT,Int.reduceGE,Int.reduceEq,Int.reduceNe,Int.reduceNeg,Int.reduceAdd,Int.reduceSub,List.length_map]
  refine condD_dec (fun hc => ?_) (fun hc => ?_)
  · obtain ⟨a, ha⟩ := at_lt (l := l) (i := i) (by omega)
    have e1 : iw .i64 ((i : Int) + 1) = ((i + 1 : Nat) : Int) := by rw [iw64] <;> omega
    have g1 : (0 : Int) ≤ i ∧ (i : Int) < l.length := ⟨by omega, by omega⟩
    rw [ffault_drop ha] at hf
    obtain ⟨n, hn, hn8⟩ : ∃ n : Nat, a.size = n ∧ n ≤ 8 := by rcases hsz a (List.mem_of_getElem? ha) with h | h <;> exact ⟨a.size.toNat, by omega, by omega⟩
    rw [hn, Int.toNat_natCast] at hf
    have hrf := rfault_c s hs a.pos a.perm n (by omega) (by unfold Acc.perm; split <;> simp)
    generalize s.flt a.pos a.perm n 0 = f at hf hrf
    obtain ⟨cp, cs, cw⟩ := a
    simp only at hn
    subst hn
    cases cw <;>
    · simp only [go_sem,Nat.reduceAdd,Nat.reduceSub,Nat.reduceMul,Nat.reduceEqDiff,Nat.reduceLeDiff,Nat.reduceLT,↓reduceIte,Int.reduceToNat,reduceCtorEq,Int.reduceLT,Int.reduceLE,Int.reduceGT,Int.reduceGE,Int.reduceEq,Int.reduceNe,Int.reduceNeg,Int.reduceAdd,Int.reduceSub,ha,List.getElem?_map,List.length_map,g1,Acc.row]
      refine draw [.rd 0 1, .qu 0 1, .qu 0 1, .rd 0 1, .qu 0 1, .rd 0 1, .qu 0 1, .qu 0 1, .rd 0 1, .qu 0 1, .rd 0 1, .qu 0 1, .qu 0 1, .mn 0, .mn 1] (by kernel_rfl) (by kernel_rfl) ?_
      simp only [go_sem,Nat.reduceAdd,Nat.reduceSub,Nat.reduceMul,Nat.reduceEqDiff,Nat.reduceLeDiff,Nat.reduceLT,↓reduceIte,Int.reduceToNat,reduceCtorEq,Int.reduceLT,Int.reduceLE,Int.reduceGT,Int.reduceGE,Int.reduceEq,Int.reduceNe,Int.reduceNeg,Int.reduceAdd,Int.reduceSub,ha,List.getElem?_map,List.length_map,g1,Acc.row]
      refine y_call (enters_of Tryd.func61 rfl (by decide)) (fun _ => ACalls.pure_use (hrf) rfl rfl) ?_
      rcases Decidable.em (f.kind = 0) with h0 | h0
      · simp only [go_sem,Nat.reduceAdd,Nat.reduceSub,Nat.reduceMul,Nat.reduceEqDiff,Nat.reduceLeDiff,Nat.reduceLT,↓reduceIte,Int.reduceToNat,reduceCtorEq,Int.reduceLT,Int.reduceLE,Int.reduceGT,Int.reduceGE,Int.reduceEq,Int.reduceNe,Int.reduceNeg,Int.reduceAdd,Int.reduceSub,Flt.cells,e1,eq_true h0,ha,List.getElem?_map,List.length_map,g1,Acc.row]
        rw [if_pos h0] at hf
        exact hK (i + 1) _ _ ⟨by omega, hf⟩ (by omega) (Wk.drop (m := 2) (by simp [wkS, Ch.get]) (Nat.zero_le _) (by simp) (by simp [chLt, AV.lt]) rfl (by intro b hb; simp at hb; rcases hb with rfl | rfl <;> simp [Blk.lt, ltL, AV.lt]))
      · simp only [go_sem,Nat.reduceAdd,Nat.reduceSub,Nat.reduceMul,Nat.reduceEqDiff,Nat.reduceLeDiff,Nat.reduceLT,↓reduceIte,Int.reduceToNat,reduceCtorEq,Int.reduceLT,Int.reduceLE,Int.reduceGT,Int.reduceGE,Int.reduceEq,Int.reduceNe,Int.reduceNeg,Int.reduceAdd,Int.reduceSub,Flt.cells,eq_false h0,ha,List.getElem?_map,List.length_map,g1,Acc.row]
        rw [if_neg h0] at hf
        exact fin f _ hf.symm
  · simp only [go_sem,Nat.reduceAdd,Nat.reduceSub,Nat.reduceMul,Nat.reduceEqDiff,Nat.reduceLeDiff,Nat.reduceLT,↓reduceIte,Int.reduceToNat,reduceCtorEq,Int.reduceLT,Int.reduceLE,Int.reduceGT,Int.reduceGE,Int.reduceEq,Int.reduceNe,Int.reduceNeg,Int.reduceAdd,Int.reduceSub]
    have : i = l.length := by omega
    subst this
    rw [List.drop_length] at hf
    exact fin ⟨0, 0⟩ _ hf.symm
end Go.Proofs.YtojfnagfafoiaaaDoor

set_option maxRecDepth 100000
set_option linter.unusedVariables false
set_option linter.unusedSimpArgs false
namespace Go.Proofs.YtojfnagfafoiaaaDoor
open Go.AM
theorem shr8_pow (v : Int) : ∀ (k : Nat), shr8 k v = v.fdiv (2 ^ (8 * k))
  | 0 => by simp [shr8]
  | k + 1 => by
    have h1 : (0 : Int) ≤ 2 ^ (8 * k) := Int.le_of_lt (Int.pow_pos (by decide))
    have h2 : (0 : Int) ≤ 2 ^ (8 * (k + 1)) := Int.le_of_lt (Int.pow_pos (by decide))
    rw [shr8_succ, shr8_pow v k, Int.fdiv_eq_ediv_of_nonneg _ h1, Int.fdiv_eq_ediv_of_nonneg _ (by decide), Int.fdiv_eq_ediv_of_nonneg _ h2, Int.ediv_ediv_of_nonneg h1, show 8 * (k + 1) = 8 * k + 8 by omega, Int.pow_add]
    rfl
theorem Bytes_c (v : Int) (n : Nat) (hn : n ≤ 8) :
    ACalls Tryd.prog 90 [iv v, iv n] [] (fun o H => o = .ret (dby (stL n v)) ∧ H = []) := by
  refine ACalls.up ?_
  refine ACalls.intro (cs := []) (n := 21) Tryd.func90 rfl rfl rfl (by kernel_rfl) rfl ?_
  generalize hpost : (fun (o : Out) (H : Heap) => o = Out.ret (dby (stL n v)) ∧ H = []) = post
  simp only [go_sem,Nat.reduceAdd,Nat.reduceSub,Nat.reduceMul,Nat.reduceEqDiff,Nat.reduceLeDiff,Nat.reduceLT,↓reduceIte,Int.reduceToNat,reduceCtorEq,Int.reduceLT,Int.reduceLE,Int.reduceGT,Int.reduceGE,Int.reduceEq,Int.reduceNe,Int.reduceNeg,Int.reduceAdd,Int.reduceSub]
  refine loop_fam (fun k : Nat => ((((Ch.nil.put 0 (iv v)).put 1 (iv n)).put 5 (.sl 0 0 k none)).put 6 (iv k))) (fun k => [.rows 1 ((stL k v).map rb)]) (fun k => n - k) (fun k => k ≤ n) 0 (by kernel_rfl) (Nat.zero_le _) ?_ ?_
  · exact (Wk.slots (s' := ((((Ch.nil.put 0 (iv v)).put 1 (iv n)).put 5 (.view true 0 [])).put 6 (iv 0))) (by simp [wkS, Ch.get])).trans
      ((Wk.ghost (.rows 1 [])).trans (Wk.le (.cons _ (.cons _ (LeC.refl _) (.sl0 0 0 0)) (.refl _)) (LeH.refl _)))
  rintro k hk K hK
  simp only [go_sem,Nat.reduceAdd,Nat.reduceSub,Nat.reduceMul,Nat.reduceEqDiff,Nat.reduceLeDiff,Nat.reduceLT,↓reduceIte,Int.reduceToNat,reduceCtorEq,Int.reduceLT,Int.reduceLE,Int.reduceGT,Int.reduceGE,Int.reduceEq,Int.reduceNe,Int.reduceNeg,Int.reduceAdd,Int.reduceSub]
  refine condD_dec (fun hc => ?_) (fun hc => ?_)
  · have e1 : iw .i64 ((k : Int) + 1) = ((k + 1 : Nat) : Int) := by rw [iw64] <;> omega
    have e2 : iw .i64 (8 * (k : Int)) = ((8 * k : Nat) : Int) := by rw [iw64] <;> omega
    have hl := stL_len k v
    have e4 : ((stL k v).map rb).take k = (stL k v).map rb := List.take_of_length_le (by simp [hl])
    have e5 : k + 1 ≤ 68719476736 := by omega
    have e6 : k ≤ (stL k v).length := by omega
    have e7 : min (8 * k) 64 = 8 * k := by omega
    simp only [go_sem,Nat.reduceAdd,Nat.reduceSub,Nat.reduceMul,Nat.reduceEqDiff,Nat.reduceLeDiff,Nat.reduceLT,↓reduceIte,Int.reduceToNat,reduceCtorEq,Int.reduceLT,Int.reduceLE,Int.reduceGT,Int.reduceGE,Int.reduceEq,Int.reduceNe,Int.reduceNeg,Int.reduceAdd,Int.reduceSub,e1,e2,e4,e5,e6,e7,hl,List.length_map,iwb8,Int.natCast_nonneg]
    refine hK (k + 1) _ _ (by omega) (by omega) ?_
    rw [stL_succ, shr8_pow]
    exact Wk.push (A := []) (b := .rows 1 ((stL k v ++ [b8 (v.fdiv (2 ^ (8 * k)))]).map rb)) 2 rfl (by simp) (by simp) (by simp) (blt0 (rb_lt0 _)) (by simp) (by simp [wkP, Ch.get, AV.ren, pu_lt, pu_eq])
  · have : k = n := by omega
    subst this
    simp only [go_sem,Nat.reduceAdd,Nat.reduceSub,Nat.reduceMul,Nat.reduceEqDiff,Nat.reduceLeDiff,Nat.reduceLT,↓reduceIte,Int.reduceToNat,reduceCtorEq,Int.reduceLT,Int.reduceLE,Int.reduceGT,Int.reduceGE,Int.reduceEq,Int.reduceNe,Int.reduceNeg,Int.reduceAdd,Int.reduceSub]
    refine up_one 0 1 ((stL k v).map rb) rfl (rb_lt0 _) (by simp [Out.fzOk, AV.fzOk, fzOkL, stL_len]) ?_ ?_
    · simp [Out.fz, AV.fz, fzL, Out.lt, AV.lt, ltL]
    · have e4 : ((stL k v).map rb).take k = (stL k v).map rb := List.take_of_length_le (by simp [stL_len])
      rw [← hpost]
      simp [Out.fz, AV.fz, fzL, e4]
theorem iwI (n : Int) : I64 (iw .i64 n) := by unfold I64; rw [iwi64]; omega
theorem rdL_I64 : ∀ (b : List UInt8), I64 (rdL b)
  | [] => ⟨by decide, by decide⟩
  | c :: b => iwI _
theorem bOr_u64 (R c : Int) : bOr .u64 (iw .u64 (iw .u64 R * 256)) c = iw .u64 (bOr .i64 (iw .i64 (R * 256)) c) := by
  have hb : BitVec.ofInt 64 (iw .u64 (iw .u64 R * 256)) = BitVec.ofInt 64 (iw .i64 (R * 256)) := by
    apply BitVec.eq_of_toNat_eq
    have h1 := toNat_ofInt (iw .u64 (iw .u64 R * 256))
    have h2 := toNat_ofInt (iw .i64 (R * 256))
    rw [iwu64, iwu64] at h1
    rw [iwi64] at h2
    rw [iwu64, iwu64, iwi64]
    omega
  show iw .u64 (((BitVec.ofInt 64 (iw .u64 (iw .u64 R * 256)) ||| BitVec.ofInt 64 c).toNat : Nat) : Int) = iw .u64 (iw .i64 (((BitVec.ofInt 64 (iw .i64 (R * 256)) ||| BitVec.ofInt 64 c).toNat : Nat) : Int))
  rw [hb]
  generalize (((BitVec.ofInt 64 (iw .i64 (R * 256)) ||| BitVec.ofInt 64 c).toNat : Nat) : Int) = N
  rw [iwu64, iwu64, iwi64]
  omega
theorem iw_u_i (R : Int) (h : I64 R) : iw .i64 (iw .u64 R) = R := by
  rw [iw_u64]; unfold I64 at h; exact iw64 h.1 h.2
theorem read_c (s : Sp) (hs : s.ok) (pos : Int) (n : Nat) (hn : n ≤ 8) (h0 : 0 ≤ pos) (h1 : pos + n ≤ s.byt.length) :
    ACalls Tryd.prog 89 [s.av, iv pos, iv n] [] (fun o H => o = .ret (iv (rdL (s.sub pos n))) ∧ H = []) := by
  refine ACalls.up ?_
  refine ACalls.intro (cs := []) (n := 28) Tryd.func89 rfl rfl rfl (by kernel_rfl) rfl ?_
  generalize hpost : (fun (o : Out) (H : Heap) => o = Out.ret (iv (rdL (s.sub pos n))) ∧ H = []) = post
  have fin : ∀ v H, v = rdL (s.sub pos n) → Up 0 post (.ret (iv v)) H := fun v H e => finv rfl (by rw [← hpost, e]; exact ⟨rfl, rfl⟩) H
  have hl : s.byt.length ≤ 2048 := by have := hs.p32; have := hs.len; omega
  have e0 : iw .i64 ((n : Int) - 1) = (n : Int) - 1 := iw64 (by omega) (by omega)
  simp only [go_sem,Nat.reduceAdd,Nat.reduceSub,Nat.reduceMul,Nat.reduceEqDiff,Nat.reduceLeDiff,Nat.reduceLT,↓reduceIte,Int.reduceToNat,reduceCtorEq,Int.reduceLT,Int.reduceLE,Int.reduceGT,Int.reduceGE,Int.reduceEq,Int.reduceNe,Int.reduceNeg,Int.reduceAdd,Int.reduceSub,Sp.av,e0]
  generalize hb : s.sub pos n = b at *
  have hbl : b.length = n := by rw [← hb, Sp.sub]; simp; omega
  refine loop_fam (fun k : Nat => ((((Ch.nil.put 1 (iv pos)).put 3 (.ptr 0 0 0)).put 7 (.int .u64 (iw .u64 (rdL (b.drop k))))).put 8 (iv ((k : Int) - 1)))) (fun _ => [.rows 2 [[.view false 1 (s.perm.map r1), .view false 1 (s.byt.map rb)]]]) (fun k => k) (fun k => k ≤ n) n (by kernel_rfl) (Nat.le_refl _)
    (Wk.slots' rfl (by rw [← hbl, List.drop_length]; simp [wkS, Ch.get, rdL]; rfl)) ?_
  rintro k hk K hK
  simp only [go_sem,Nat.reduceAdd,Nat.reduceSub,Nat.reduceMul,Nat.reduceEqDiff,Nat.reduceLeDiff,Nat.reduceLT,↓reduceIte,Int.reduceToNat,reduceCtorEq,Int.reduceLT,Int.reduceLE,Int.reduceGT,Int.reduceGE,Int.reduceEq,Int.reduceNe,Int.reduceNeg,Int.reduceAdd,Int.reduceSub]
  refine condD_dec (fun hc => ?_) (fun hc => ?_)
  · obtain ⟨m, rfl⟩ : ∃ m, k = m + 1 := ⟨k - 1, by omega⟩
    obtain ⟨c, hc'⟩ := at_lt (l := b) (i := m) (by omega)
    have hcs : s.byt[(pos + m).toNat]? = some c := by
      rw [← hb, Sp.sub, List.getElem?_take, if_pos (by omega), List.getElem?_drop] at hc'
      rw [← hc']; congr 1; omega
    have e1 : (((m + 1 : Nat) : Int) - 1) = (m : Int) := by omega
    have e2 : iw .i64 (pos + (m : Int)) = pos + m := iw64 (by omega) (by omega)
    have e3 : iw .i64 ((m : Int) - 1) = (m : Int) - 1 := iw64 (by omega) (by omega)
    have g1 : 0 ≤ pos + (m : Int) ∧ pos + (m : Int) < s.byt.length := ⟨by omega, by omega⟩
    rw [e1]
    simp only [go_sem,Nat.reduceAdd,Nat.reduceSub,Nat.reduceMul,Nat.reduceEqDiff,Nat.reduceLeDiff,Nat.reduceLT,↓reduceIte,Int.reduceToNat,reduceCtorEq,Int.reduceLT,Int.reduceLE,Int.reduceGT,Int.reduceGE,Int.reduceEq,Int.reduceNe,Int.reduceNeg,Int.reduceAdd,Int.reduceSub,e2,e3,List.length_map,List.getElem?_map,hcs,g1]
    refine hK m _ _ (by omega) (by omega) (Wk.slots' rfl ?_)
    simp only [wkS, Ch.get, rdL_at hc']
    simp
    rw [show iw .u64 (c.toNat : Int) = c.toNat by rw [iwu64]; have := u8_lt c; have := u8_ge c; omega]
    exact bOr_u64 _ _
  · have : k = 0 := by omega
    subst this
    simp only [go_sem,Nat.reduceAdd,Nat.reduceSub,Nat.reduceMul,Nat.reduceEqDiff,Nat.reduceLeDiff,Nat.reduceLT,↓reduceIte,Int.reduceToNat,reduceCtorEq,Int.reduceLT,Int.reduceLE,Int.reduceGT,Int.reduceGE,Int.reduceEq,Int.reduceNe,Int.reduceNeg,Int.reduceAdd,Int.reduceSub,iw_u_i _ (rdL_I64 _)]
    exact fin _ _ rfl
end Go.Proofs.YtojfnagfafoiaaaDoor

set_option maxRecDepth 100000
set_option linter.unusedVariables false
set_option linter.unusedSimpArgs false
namespace Go.Proofs.YtojfnagfafoiaaaDoor
open Go.AM
theorem rdE {e : Eff} {d : AV} {n : Int} (h0 : 0 ≤ n) (h7 : n ≤ 7) : (e.cellsD d)[n.toNat]? = some (iv (e.rg.get n)) := by
  rcases cases8 h0 h7 with rfl | rfl | rfl | rfl | rfl | rfl | rfl | rfl <;> rfl
def m1 (o : Eff) (a v : Int) : Eff := { o with rg := o.rg.set a v }
def m2 (o : Eff) (pos : Int) (d : List UInt8) : Eff := { o with pos := pos, data := d }
def m7 (o : Eff) (v : Int) : Eff := { o with rg := { o.rg with r7 := v } }
def mp (o : Eff) (v : Int) : Eff := { o with rg := { o.rg with pc := v } }
theorem mem17_c (x : Ins) (hx : x.ok) (ho : x.op = 17) (s : Sp) (hs : s.ok) (r : Rg) (next q : Int) (n : Nat) (hn : n ≤ 8) (h0 : 0 ≤ q) (h1 : q + n ≤ s.byt.length) (w : Bool) (o : Eff) (hd : o.data = []) :
    ACalls Tryd.prog 58 [x.av, s.av, r.av, iv next, .agg [iv q, iv n, .bool w], .agg (o.cellsD dnil)] [] (fun u H => u = .ret (m1 o x.a (rdL (s.sub q n))).av ∧ H = []) := by
  refine ACalls.up ?_
  refine ACalls.intro (cs := []) (n := 140) Tryd.func58 rfl rfl rfl (by kernel_rfl) rfl ?_
  generalize hpost : (fun (u : Out) (H : Heap) => u = Out.ret (m1 o x.a (rdL (s.sub q n))).av ∧ H = []) = post
  have fin : ∀ (e : Eff) H, e = m1 o x.a (rdL (s.sub q n)) → Up 0 post (.ret e.av) H := fun e H h => finv (Eff.av_lt e 0) (by rw [← hpost, ← h]; exact ⟨rfl, rfl⟩) H
  have finN : ∀ (e : Eff) H, e = m1 o x.a (rdL (s.sub q n)) → e.data = [] → Up 0 post (.ret (.agg (e.cellsD dnil))) H := fun e H h hd => .le (.ret (.agg (leL_dnil e))) (LeH.refl _) (by have := fin e H h; unfold Eff.av Eff.cells at this; rwa [hd] at this)
  have ha : 0 ≤ x.a ∧ x.a < 8 := ⟨hx.a0, by have := hx.a7; omega⟩
  have ha19 : x.a.toNat + 1 ≤ 19 := by omega
  have hat := r.at hx.a0 hx.a7
  obtain ⟨op, xa, xb, imm⟩ := x
  simp only at ho ha ha19 hat
  subst ho
  simp only [go_sem,Nat.reduceAdd,Nat.reduceSub,Nat.reduceMul,Nat.reduceEqDiff,Nat.reduceLeDiff,Nat.reduceLT,↓reduceIte,Int.reduceToNat,reduceCtorEq,Int.reduceLT,Int.reduceLE,Int.reduceGT,Int.reduceGE,Int.reduceEq,Int.reduceNe,Int.reduceNeg,Int.reduceAdd,Int.reduceSub,Ins.av,Ins.cells,Sp.av,Rg.av,Rg.cells,Eff.cellsD,ha,ha19,hat,wr0 ha.1 ha.2]
  refine draw [.qu 0 0, .qu 0 0, .qu 0 0, .qu 0 0, .qu 0 0, .qu 0 0, .qu 0 0, .qu 0 0, .qu 0 0, .qu 0 0, .qu 0 0, .mn 0] (by kernel_rfl) (by kernel_rfl) ?_
  simp only [go_sem,Nat.reduceAdd,Nat.reduceSub,Nat.reduceMul,Nat.reduceEqDiff,Nat.reduceLeDiff,Nat.reduceLT,↓reduceIte,Int.reduceToNat,reduceCtorEq,Int.reduceLT,Int.reduceLE,Int.reduceGT,Int.reduceGE,Int.reduceEq,Int.reduceNe,Int.reduceNeg,Int.reduceAdd,Int.reduceSub,Ins.av,Ins.cells,Sp.av,Rg.av,Rg.cells,Eff.cellsD,ha,ha19,hat,wr0 ha.1 ha.2]
  refine y_call (enters_of Tryd.func89 rfl (by decide)) (fun _ => ACalls.pure_use (read_c s hs q n hn h0 h1) rfl rfl) ?_
  simp only [go_sem,Nat.reduceAdd,Nat.reduceSub,Nat.reduceMul,Nat.reduceEqDiff,Nat.reduceLeDiff,Nat.reduceLT,↓reduceIte,Int.reduceToNat,reduceCtorEq,Int.reduceLT,Int.reduceLE,Int.reduceGT,Int.reduceGE,Int.reduceEq,Int.reduceNe,Int.reduceNeg,Int.reduceAdd,Int.reduceSub,Ins.av,Ins.cells,Sp.av,Rg.av,Rg.cells,Eff.cellsD,ha,ha19,hat,wr0 ha.1 ha.2]
  exact finN (m1 o xa (rdL (s.sub q n))) _ rfl hd
theorem mem18_c (x : Ins) (hx : x.ok) (ho : x.op = 18) (s : Sp) (hs : s.ok) (r : Rg) (next q : Int) (n : Nat) (hn : n ≤ 8) (h0 : 0 ≤ q) (h1 : q + n ≤ s.byt.length) (w : Bool) (o : Eff) (hd : o.data = []) :
    ACalls Tryd.prog 58 [x.av, s.av, r.av, iv next, .agg [iv q, iv n, .bool w], .agg (o.cellsD dnil)] [] (fun u H => u = .ret (m1 o x.a (rdL (s.sub q n))).av ∧ H = []) := by
  refine ACalls.up ?_
  refine ACalls.intro (cs := []) (n := 140) Tryd.func58 rfl rfl rfl (by kernel_rfl) rfl ?_
  generalize hpost : (fun (u : Out) (H : Heap) => u = Out.ret (m1 o x.a (rdL (s.sub q n))).av ∧ H = []) = post
  have fin : ∀ (e : Eff) H, e = m1 o x.a (rdL (s.sub q n)) → Up 0 post (.ret e.av) H := fun e H h => finv (Eff.av_lt e 0) (by rw [← hpost, ← h]; exact ⟨rfl, rfl⟩) H
  have finN : ∀ (e : Eff) H, e = m1 o x.a (rdL (s.sub q n)) → e.data = [] → Up 0 post (.ret (.agg (e.cellsD dnil))) H := fun e H h hd => .le (.ret (.agg (leL_dnil e))) (LeH.refl _) (by have := fin e H h; unfold Eff.av Eff.cells at this; rwa [hd] at this)
  have ha : 0 ≤ x.a ∧ x.a < 8 := ⟨hx.a0, by have := hx.a7; omega⟩
  have ha19 : x.a.toNat + 1 ≤ 19 := by omega
  have hat := r.at hx.a0 hx.a7
  obtain ⟨op, xa, xb, imm⟩ := x
  simp only at ho ha ha19 hat
  subst ho
  simp only [go_sem,Nat.reduceAdd,Nat.reduceSub,Nat.reduceMul,Nat.reduceEqDiff,Nat.reduceLeDiff,Nat.reduceLT,↓reduceIte,Int.reduceToNat,reduceCtorEq,Int.reduceLT,Int.reduceLE,Int.reduceGT,Int.reduceGE,Int.reduceEq,Int.reduceNe,Int.reduceNeg,Int.reduceAdd,Int.reduceSub,Ins.av,Ins.cells,Sp.av,Rg.av,Rg.cells,Eff.cellsD,ha,ha19,hat,wr0 ha.1 ha.2]
  refine draw [.qu 0 0, .qu 0 0, .qu 0 0, .qu 0 0, .qu 0 0, .qu 0 0, .qu 0 0, .qu 0 0, .qu 0 0, .qu 0 0, .qu 0 0, .mn 0] (by kernel_rfl) (by kernel_rfl) ?_
  simp only [go_sem,Nat.reduceAdd,Nat.reduceSub,Nat.reduceMul,Nat.reduceEqDiff,Nat.reduceLeDiff,Nat.reduceLT,↓reduceIte,Int.reduceToNat,reduceCtorEq,Int.reduceLT,Int.reduceLE,Int.reduceGT,Int.reduceGE,Int.reduceEq,Int.reduceNe,Int.reduceNeg,Int.reduceAdd,Int.reduceSub,Ins.av,Ins.cells,Sp.av,Rg.av,Rg.cells,Eff.cellsD,ha,ha19,hat,wr0 ha.1 ha.2]
  refine y_call (enters_of Tryd.func89 rfl (by decide)) (fun _ => ACalls.pure_use (read_c s hs q n hn h0 h1) rfl rfl) ?_
  simp only [go_sem,Nat.reduceAdd,Nat.reduceSub,Nat.reduceMul,Nat.reduceEqDiff,Nat.reduceLeDiff,Nat.reduceLT,↓reduceIte,Int.reduceToNat,reduceCtorEq,Int.reduceLT,Int.reduceLE,Int.reduceGT,Int.reduceGE,Int.reduceEq,Int.reduceNe,Int.reduceNeg,Int.reduceAdd,Int.reduceSub,Ins.av,Ins.cells,Sp.av,Rg.av,Rg.cells,Eff.cellsD,ha,ha19,hat,wr0 ha.1 ha.2]
  exact finN (m1 o xa (rdL (s.sub q n))) _ rfl hd
theorem mem19_c (x : Ins) (hx : x.ok) (ho : x.op = 19) (s : Sp) (hs : s.ok) (r : Rg) (next q : Int) (n : Nat) (hn : n ≤ 8) (w : Bool) (o : Eff) (hd : o.data = []) :
    ACalls Tryd.prog 58 [x.av, s.av, r.av, iv next, .agg [iv q, iv n, .bool w], .agg (o.cellsD dnil)] [] (fun u H => u = .ret (m2 o q (stL n (r.get x.a))).av ∧ H = []) := by
  refine ACalls.up ?_
  refine ACalls.intro (cs := []) (n := 140) Tryd.func58 rfl rfl rfl (by kernel_rfl) rfl ?_
  generalize hpost : (fun (u : Out) (H : Heap) => u = Out.ret (m2 o q (stL n (r.get x.a))).av ∧ H = []) = post
  have fin : ∀ (e : Eff) H, e = m2 o q (stL n (r.get x.a)) → Up 0 post (.ret e.av) H := fun e H h => finv (Eff.av_lt e 0) (by rw [← hpost, ← h]; exact ⟨rfl, rfl⟩) H
  have finN : ∀ (e : Eff) H, e = m2 o q (stL n (r.get x.a)) → e.data = [] → Up 0 post (.ret (.agg (e.cellsD dnil))) H := fun e H h hd => .le (.ret (.agg (leL_dnil e))) (LeH.refl _) (by have := fin e H h; unfold Eff.av Eff.cells at this; rwa [hd] at this)
  have ha : 0 ≤ x.a ∧ x.a < 8 := ⟨hx.a0, by have := hx.a7; omega⟩
  have ha19 : x.a.toNat + 1 ≤ 19 := by omega
  have hat := r.at hx.a0 hx.a7
  obtain ⟨op, xa, xb, imm⟩ := x
  simp only at ho ha ha19 hat
  subst ho
  simp only [go_sem,Nat.reduceAdd,Nat.reduceSub,Nat.reduceMul,Nat.reduceEqDiff,Nat.reduceLeDiff,Nat.reduceLT,↓reduceIte,Int.reduceToNat,reduceCtorEq,Int.reduceLT,Int.reduceLE,Int.reduceGT,Int.reduceGE,Int.reduceEq,Int.reduceNe,Int.reduceNeg,Int.reduceAdd,Int.reduceSub,Ins.av,Ins.cells,Sp.av,Rg.av,Rg.cells,Eff.cellsD,ha,ha19,hat,wr0 ha.1 ha.2]
  refine draw [.qu 0 0, .qu 0 0, .qu 0 0, .qu 0 0, .qu 0 0, .qu 0 0, .qu 0 0, .qu 0 0, .qu 0 0, .mn 0] (by kernel_rfl) (by kernel_rfl) ?_
  simp only [go_sem,Nat.reduceAdd,Nat.reduceSub,Nat.reduceMul,Nat.reduceEqDiff,Nat.reduceLeDiff,Nat.reduceLT,↓reduceIte,Int.reduceToNat,reduceCtorEq,Int.reduceLT,Int.reduceLE,Int.reduceGT,Int.reduceGE,Int.reduceEq,Int.reduceNe,Int.reduceNeg,Int.reduceAdd,Int.reduceSub,Ins.av,Ins.cells,Sp.av,Rg.av,Rg.cells,Eff.cellsD,ha,ha19,hat,wr0 ha.1 ha.2]
  refine y_call (enters_of Tryd.func90 rfl (by decide)) (fun _ => ACalls.pure_use (Bytes_c (r.get xa) n hn) rfl (by simp [AV.lt])) ?_
  simp only [go_sem,Nat.reduceAdd,Nat.reduceSub,Nat.reduceMul,Nat.reduceEqDiff,Nat.reduceLeDiff,Nat.reduceLT,↓reduceIte,Int.reduceToNat,reduceCtorEq,Int.reduceLT,Int.reduceLE,Int.reduceGT,Int.reduceGE,Int.reduceEq,Int.reduceNe,Int.reduceNeg,Int.reduceAdd,Int.reduceSub,Ins.av,Ins.cells,Sp.av,Rg.av,Rg.cells,Eff.cellsD,ha,ha19,hat,wr0 ha.1 ha.2]
  exact fin (m2 o q (stL n (r.get xa))) _ rfl
theorem mem20_c (x : Ins) (hx : x.ok) (ho : x.op = 20) (s : Sp) (hs : s.ok) (r : Rg) (next q : Int) (n : Nat) (hn : n ≤ 8) (w : Bool) (o : Eff) (hd : o.data = []) :
    ACalls Tryd.prog 58 [x.av, s.av, r.av, iv next, .agg [iv q, iv n, .bool w], .agg (o.cellsD dnil)] [] (fun u H => u = .ret (m2 o q (stL n (r.get x.a))).av ∧ H = []) := by
  refine ACalls.up ?_
  refine ACalls.intro (cs := []) (n := 140) Tryd.func58 rfl rfl rfl (by kernel_rfl) rfl ?_
  generalize hpost : (fun (u : Out) (H : Heap) => u = Out.ret (m2 o q (stL n (r.get x.a))).av ∧ H = []) = post
  have fin : ∀ (e : Eff) H, e = m2 o q (stL n (r.get x.a)) → Up 0 post (.ret e.av) H := fun e H h => finv (Eff.av_lt e 0) (by rw [← hpost, ← h]; exact ⟨rfl, rfl⟩) H
  have finN : ∀ (e : Eff) H, e = m2 o q (stL n (r.get x.a)) → e.data = [] → Up 0 post (.ret (.agg (e.cellsD dnil))) H := fun e H h hd => .le (.ret (.agg (leL_dnil e))) (LeH.refl _) (by have := fin e H h; unfold Eff.av Eff.cells at this; rwa [hd] at this)
  have ha : 0 ≤ x.a ∧ x.a < 8 := ⟨hx.a0, by have := hx.a7; omega⟩
  have ha19 : x.a.toNat + 1 ≤ 19 := by omega
  have hat := r.at hx.a0 hx.a7
  obtain ⟨op, xa, xb, imm⟩ := x
  simp only at ho ha ha19 hat
  subst ho
  simp only [go_sem,Nat.reduceAdd,Nat.reduceSub,Nat.reduceMul,Nat.reduceEqDiff,Nat.reduceLeDiff,Nat.reduceLT,↓reduceIte,Int.reduceToNat,reduceCtorEq,Int.reduceLT,Int.reduceLE,Int.reduceGT,Int.reduceGE,Int.reduceEq,Int.reduceNe,Int.reduceNeg,Int.reduceAdd,Int.reduceSub,Ins.av,Ins.cells,Sp.av,Rg.av,Rg.cells,Eff.cellsD,ha,ha19,hat,wr0 ha.1 ha.2]
  refine draw [.qu 0 0, .qu 0 0, .qu 0 0, .qu 0 0, .qu 0 0, .qu 0 0, .qu 0 0, .qu 0 0, .qu 0 0, .mn 0] (by kernel_rfl) (by kernel_rfl) ?_
  simp only [go_sem,Nat.reduceAdd,Nat.reduceSub,Nat.reduceMul,Nat.reduceEqDiff,Nat.reduceLeDiff,Nat.reduceLT,↓reduceIte,Int.reduceToNat,reduceCtorEq,Int.reduceLT,Int.reduceLE,Int.reduceGT,Int.reduceGE,Int.reduceEq,Int.reduceNe,Int.reduceNeg,Int.reduceAdd,Int.reduceSub,Ins.av,Ins.cells,Sp.av,Rg.av,Rg.cells,Eff.cellsD,ha,ha19,hat,wr0 ha.1 ha.2]
  refine y_call (enters_of Tryd.func90 rfl (by decide)) (fun _ => ACalls.pure_use (Bytes_c (r.get xa) n hn) rfl (by simp [AV.lt])) ?_
  simp only [go_sem,Nat.reduceAdd,Nat.reduceSub,Nat.reduceMul,Nat.reduceEqDiff,Nat.reduceLeDiff,Nat.reduceLT,↓reduceIte,Int.reduceToNat,reduceCtorEq,Int.reduceLT,Int.reduceLE,Int.reduceGT,Int.reduceGE,Int.reduceEq,Int.reduceNe,Int.reduceNeg,Int.reduceAdd,Int.reduceSub,Ins.av,Ins.cells,Sp.av,Rg.av,Rg.cells,Eff.cellsD,ha,ha19,hat,wr0 ha.1 ha.2]
  exact fin (m2 o q (stL n (r.get xa))) _ rfl
theorem mem27_c (x : Ins) (hx : x.ok) (ho : x.op = 27) (s : Sp) (hs : s.ok) (r : Rg) (next q : Int) (n : Nat) (hn : n ≤ 8) (w : Bool) (o : Eff) (hd : o.data = []) :
    ACalls Tryd.prog 58 [x.av, s.av, r.av, iv next, .agg [iv q, iv n, .bool w], .agg (o.cellsD dnil)] [] (fun u H => u = .ret (m7 (m2 o q (stL 8 next)) q).av ∧ H = []) := by
  refine ACalls.up ?_
  refine ACalls.intro (cs := []) (n := 140) Tryd.func58 rfl rfl rfl (by kernel_rfl) rfl ?_
  generalize hpost : (fun (u : Out) (H : Heap) => u = Out.ret (m7 (m2 o q (stL 8 next)) q).av ∧ H = []) = post
  have fin : ∀ (e : Eff) H, e = m7 (m2 o q (stL 8 next)) q → Up 0 post (.ret e.av) H := fun e H h => finv (Eff.av_lt e 0) (by rw [← hpost, ← h]; exact ⟨rfl, rfl⟩) H
  have finN : ∀ (e : Eff) H, e = m7 (m2 o q (stL 8 next)) q → e.data = [] → Up 0 post (.ret (.agg (e.cellsD dnil))) H := fun e H h hd => .le (.ret (.agg (leL_dnil e))) (LeH.refl _) (by have := fin e H h; unfold Eff.av Eff.cells at this; rwa [hd] at this)
  have ha : 0 ≤ x.a ∧ x.a < 8 := ⟨hx.a0, by have := hx.a7; omega⟩
  have ha19 : x.a.toNat + 1 ≤ 19 := by omega
  have hat := r.at hx.a0 hx.a7
  obtain ⟨op, xa, xb, imm⟩ := x
  simp only at ho ha ha19 hat
  subst ho
  simp only [go_sem,Nat.reduceAdd,Nat.reduceSub,Nat.reduceMul,Nat.reduceEqDiff,Nat.reduceLeDiff,Nat.reduceLT,↓reduceIte,Int.reduceToNat,reduceCtorEq,Int.reduceLT,Int.reduceLE,Int.reduceGT,Int.reduceGE,Int.reduceEq,Int.reduceNe,Int.reduceNeg,Int.reduceAdd,Int.reduceSub,Ins.av,Ins.cells,Sp.av,Rg.av,Rg.cells,Eff.cellsD,ha,ha19,hat,wr0 ha.1 ha.2]
  refine rK_use (enters_of Tryd.func90 rfl (by decide)) (ACalls.pure_use (Bytes_c next 8 (by decide)) rfl (by simp [AV.lt])) ?_
  simp only [go_sem,Nat.reduceAdd,Nat.reduceSub,Nat.reduceMul,Nat.reduceEqDiff,Nat.reduceLeDiff,Nat.reduceLT,↓reduceIte,Int.reduceToNat,reduceCtorEq,Int.reduceLT,Int.reduceLE,Int.reduceGT,Int.reduceGE,Int.reduceEq,Int.reduceNe,Int.reduceNeg,Int.reduceAdd,Int.reduceSub,Ins.av,Ins.cells,Sp.av,Rg.av,Rg.cells,Eff.cellsD,ha,ha19,hat,wr0 ha.1 ha.2]
  exact fin (m7 (m2 o q (stL 8 next)) q) _ rfl
theorem mem28_c (x : Ins) (hx : x.ok) (ho : x.op = 28) (s : Sp) (hs : s.ok) (r : Rg) (next q : Int) (n : Nat) (hn : n ≤ 8) (w : Bool) (o : Eff) (hd : o.data = []) :
    ACalls Tryd.prog 58 [x.av, s.av, r.av, iv next, .agg [iv q, iv n, .bool w], .agg (o.cellsD dnil)] [] (fun u H => u = .ret (mp (m7 (m2 o q (stL 8 next)) q) (r.get x.a)).av ∧ H = []) := by
  refine ACalls.up ?_
  refine ACalls.intro (cs := []) (n := 140) Tryd.func58 rfl rfl rfl (by kernel_rfl) rfl ?_
  generalize hpost : (fun (u : Out) (H : Heap) => u = Out.ret (mp (m7 (m2 o q (stL 8 next)) q) (r.get x.a)).av ∧ H = []) = post
  have fin : ∀ (e : Eff) H, e = mp (m7 (m2 o q (stL 8 next)) q) (r.get x.a) → Up 0 post (.ret e.av) H := fun e H h => finv (Eff.av_lt e 0) (by rw [← hpost, ← h]; exact ⟨rfl, rfl⟩) H
  have finN : ∀ (e : Eff) H, e = mp (m7 (m2 o q (stL 8 next)) q) (r.get x.a) → e.data = [] → Up 0 post (.ret (.agg (e.cellsD dnil))) H := fun e H h hd => .le (.ret (.agg (leL_dnil e))) (LeH.refl _) (by have := fin e H h; unfold Eff.av Eff.cells at this; rwa [hd] at this)
  have ha : 0 ≤ x.a ∧ x.a < 8 := ⟨hx.a0, by have := hx.a7; omega⟩
  have ha19 : x.a.toNat + 1 ≤ 19 := by omega
  have hat := r.at hx.a0 hx.a7
  obtain ⟨op, xa, xb, imm⟩ := x
  simp only at ho ha ha19 hat
  subst ho
  simp only [go_sem,Nat.reduceAdd,Nat.reduceSub,Nat.reduceMul,Nat.reduceEqDiff,Nat.reduceLeDiff,Nat.reduceLT,↓reduceIte,Int.reduceToNat,reduceCtorEq,Int.reduceLT,Int.reduceLE,Int.reduceGT,Int.reduceGE,Int.reduceEq,Int.reduceNe,Int.reduceNeg,Int.reduceAdd,Int.reduceSub,Ins.av,Ins.cells,Sp.av,Rg.av,Rg.cells,Eff.cellsD,ha,ha19,hat,wr0 ha.1 ha.2]
  refine rK_use (enters_of Tryd.func90 rfl (by decide)) (ACalls.pure_use (Bytes_c next 8 (by decide)) rfl (by simp [AV.lt])) ?_
  simp only [go_sem,Nat.reduceAdd,Nat.reduceSub,Nat.reduceMul,Nat.reduceEqDiff,Nat.reduceLeDiff,Nat.reduceLT,↓reduceIte,Int.reduceToNat,reduceCtorEq,Int.reduceLT,Int.reduceLE,Int.reduceGT,Int.reduceGE,Int.reduceEq,Int.reduceNe,Int.reduceNeg,Int.reduceAdd,Int.reduceSub,Ins.av,Ins.cells,Sp.av,Rg.av,Rg.cells,Eff.cellsD,ha,ha19,hat,wr0 ha.1 ha.2]
  exact fin (mp (m7 (m2 o q (stL 8 next)) q) (r.get xa)) _ rfl
theorem mem30_c (x : Ins) (hx : x.ok) (ho : x.op = 30) (s : Sp) (hs : s.ok) (r : Rg) (next q : Int) (n : Nat) (hn : n ≤ 8) (w : Bool) (o : Eff) (hd : o.data = []) :
    ACalls Tryd.prog 58 [x.av, s.av, r.av, iv next, .agg [iv q, iv n, .bool w], .agg (o.cellsD dnil)] [] (fun u H => u = .ret (m7 (m2 o q (stL 8 (r.get x.a))) q).av ∧ H = []) := by
  refine ACalls.up ?_
  refine ACalls.intro (cs := []) (n := 140) Tryd.func58 rfl rfl rfl (by kernel_rfl) rfl ?_
  generalize hpost : (fun (u : Out) (H : Heap) => u = Out.ret (m7 (m2 o q (stL 8 (r.get x.a))) q).av ∧ H = []) = post
  have fin : ∀ (e : Eff) H, e = m7 (m2 o q (stL 8 (r.get x.a))) q → Up 0 post (.ret e.av) H := fun e H h => finv (Eff.av_lt e 0) (by rw [← hpost, ← h]; exact ⟨rfl, rfl⟩) H
  have finN : ∀ (e : Eff) H, e = m7 (m2 o q (stL 8 (r.get x.a))) q → e.data = [] → Up 0 post (.ret (.agg (e.cellsD dnil))) H := fun e H h hd => .le (.ret (.agg (leL_dnil e))) (LeH.refl _) (by have := fin e H h; unfold Eff.av Eff.cells at this; rwa [hd] at this)
  have ha : 0 ≤ x.a ∧ x.a < 8 := ⟨hx.a0, by have := hx.a7; omega⟩
  have ha19 : x.a.toNat + 1 ≤ 19 := by omega
  have hat := r.at hx.a0 hx.a7
  obtain ⟨op, xa, xb, imm⟩ := x
  simp only at ho ha ha19 hat
  subst ho
  simp only [go_sem,Nat.reduceAdd,Nat.reduceSub,Nat.reduceMul,Nat.reduceEqDiff,Nat.reduceLeDiff,Nat.reduceLT,↓reduceIte,Int.reduceToNat,reduceCtorEq,Int.reduceLT,Int.reduceLE,Int.reduceGT,Int.reduceGE,Int.reduceEq,Int.reduceNe,Int.reduceNeg,Int.reduceAdd,Int.reduceSub,Ins.av,Ins.cells,Sp.av,Rg.av,Rg.cells,Eff.cellsD,ha,ha19,hat,wr0 ha.1 ha.2]
  refine rK_use (enters_of Tryd.func90 rfl (by decide)) (ACalls.pure_use (Bytes_c (r.get xa) 8 (by decide)) rfl (by simp [AV.lt])) ?_
  simp only [go_sem,Nat.reduceAdd,Nat.reduceSub,Nat.reduceMul,Nat.reduceEqDiff,Nat.reduceLeDiff,Nat.reduceLT,↓reduceIte,Int.reduceToNat,reduceCtorEq,Int.reduceLT,Int.reduceLE,Int.reduceGT,Int.reduceGE,Int.reduceEq,Int.reduceNe,Int.reduceNeg,Int.reduceAdd,Int.reduceSub,Ins.av,Ins.cells,Sp.av,Rg.av,Rg.cells,Eff.cellsD,ha,ha19,hat,wr0 ha.1 ha.2]
  exact fin (m7 (m2 o q (stL 8 (r.get xa))) q) _ rfl
theorem mem29_c (x : Ins) (hx : x.ok) (ho : x.op = 29) (s : Sp) (hs : s.ok) (r : Rg) (next q : Int) (n : Nat) (hn : n ≤ 8) (h0 : 0 ≤ q) (h1 : q + (8 : Nat) ≤ s.byt.length) (w : Bool) (o : Eff) (hd : o.data = []) :
    ACalls Tryd.prog 58 [x.av, s.av, r.av, iv next, .agg [iv q, iv n, .bool w], .agg (o.cellsD dnil)] [] (fun u H => u = .ret (m7 (mp o (rdL (s.sub q 8))) (iw .i64 (r.r7 + 8))).av ∧ H = []) := by
  refine ACalls.up ?_
  refine ACalls.intro (cs := []) (n := 140) Tryd.func58 rfl rfl rfl (by kernel_rfl) rfl ?_
  generalize hpost : (fun (u : Out) (H : Heap) => u = Out.ret (m7 (mp o (rdL (s.sub q 8))) (iw .i64 (r.r7 + 8))).av ∧ H = []) = post
  have fin : ∀ (e : Eff) H, e = m7 (mp o (rdL (s.sub q 8))) (iw .i64 (r.r7 + 8)) → Up 0 post (.ret e.av) H := fun e H h => finv (Eff.av_lt e 0) (by rw [← hpost, ← h]; exact ⟨rfl, rfl⟩) H
  have finN : ∀ (e : Eff) H, e = m7 (mp o (rdL (s.sub q 8))) (iw .i64 (r.r7 + 8)) → e.data = [] → Up 0 post (.ret (.agg (e.cellsD dnil))) H := fun e H h hd => .le (.ret (.agg (leL_dnil e))) (LeH.refl _) (by have := fin e H h; unfold Eff.av Eff.cells at this; rwa [hd] at this)
  have ha : 0 ≤ x.a ∧ x.a < 8 := ⟨hx.a0, by have := hx.a7; omega⟩
  have ha19 : x.a.toNat + 1 ≤ 19 := by omega
  have hat := r.at hx.a0 hx.a7
  obtain ⟨op, xa, xb, imm⟩ := x
  simp only at ho ha ha19 hat
  subst ho
  simp only [go_sem,Nat.reduceAdd,Nat.reduceSub,Nat.reduceMul,Nat.reduceEqDiff,Nat.reduceLeDiff,Nat.reduceLT,↓reduceIte,Int.reduceToNat,reduceCtorEq,Int.reduceLT,Int.reduceLE,Int.reduceGT,Int.reduceGE,Int.reduceEq,Int.reduceNe,Int.reduceNeg,Int.reduceAdd,Int.reduceSub,Ins.av,Ins.cells,Sp.av,Rg.av,Rg.cells,Eff.cellsD,ha,ha19,hat,wr0 ha.1 ha.2]
  refine rK_use (enters_of Tryd.func89 rfl (by decide)) (ACalls.pure_use (read_c s hs q 8 (by decide) h0 h1) rfl rfl) ?_
  simp only [go_sem,Nat.reduceAdd,Nat.reduceSub,Nat.reduceMul,Nat.reduceEqDiff,Nat.reduceLeDiff,Nat.reduceLT,↓reduceIte,Int.reduceToNat,reduceCtorEq,Int.reduceLT,Int.reduceLE,Int.reduceGT,Int.reduceGE,Int.reduceEq,Int.reduceNe,Int.reduceNeg,Int.reduceAdd,Int.reduceSub,Ins.av,Ins.cells,Sp.av,Rg.av,Rg.cells,Eff.cellsD,ha,ha19,hat,wr0 ha.1 ha.2]
  exact finN (m7 (mp o (rdL (s.sub q 8))) (iw .i64 (r.r7 + 8))) _ rfl hd
theorem mem31_c (x : Ins) (hx : x.ok) (ho : x.op = 31) (s : Sp) (hs : s.ok) (r : Rg) (next q : Int) (n : Nat) (hn : n ≤ 8) (h0 : 0 ≤ q) (h1 : q + (8 : Nat) ≤ s.byt.length) (w : Bool) (o : Eff) (hd : o.data = []) :
    ACalls Tryd.prog 58 [x.av, s.av, r.av, iv next, .agg [iv q, iv n, .bool w], .agg (o.cellsD dnil)] [] (fun u H => u = .ret (m1 (m7 o (iw .i64 (r.r7 + 8))) x.a (rdL (s.sub q 8))).av ∧ H = []) := by
  refine ACalls.up ?_
  refine ACalls.intro (cs := []) (n := 140) Tryd.func58 rfl rfl rfl (by kernel_rfl) rfl ?_
  generalize hpost : (fun (u : Out) (H : Heap) => u = Out.ret (m1 (m7 o (iw .i64 (r.r7 + 8))) x.a (rdL (s.sub q 8))).av ∧ H = []) = post
  have fin : ∀ (e : Eff) H, e = m1 (m7 o (iw .i64 (r.r7 + 8))) x.a (rdL (s.sub q 8)) → Up 0 post (.ret e.av) H := fun e H h => finv (Eff.av_lt e 0) (by rw [← hpost, ← h]; exact ⟨rfl, rfl⟩) H
  have finN : ∀ (e : Eff) H, e = m1 (m7 o (iw .i64 (r.r7 + 8))) x.a (rdL (s.sub q 8)) → e.data = [] → Up 0 post (.ret (.agg (e.cellsD dnil))) H := fun e H h hd => .le (.ret (.agg (leL_dnil e))) (LeH.refl _) (by have := fin e H h; unfold Eff.av Eff.cells at this; rwa [hd] at this)
  have ha : 0 ≤ x.a ∧ x.a < 8 := ⟨hx.a0, by have := hx.a7; omega⟩
  have ha19 : x.a.toNat + 1 ≤ 19 := by omega
  have hat := r.at hx.a0 hx.a7
  obtain ⟨op, xa, xb, imm⟩ := x
  simp only at ho ha ha19 hat
  subst ho
  simp only [go_sem,Nat.reduceAdd,Nat.reduceSub,Nat.reduceMul,Nat.reduceEqDiff,Nat.reduceLeDiff,Nat.reduceLT,↓reduceIte,Int.reduceToNat,reduceCtorEq,Int.reduceLT,Int.reduceLE,Int.reduceGT,Int.reduceGE,Int.reduceEq,Int.reduceNe,Int.reduceNeg,Int.reduceAdd,Int.reduceSub,Ins.av,Ins.cells,Sp.av,Rg.av,Rg.cells,Eff.cellsD,ha,ha19,hat,wr0 ha.1 ha.2]
  refine draw [.qu 0 0, .qu 0 0, .qu 0 0, .qu 0 0, .qu 0 0, .qu 0 0, .qu 0 0, .qu 0 0, .qu 0 0, .mn 0] (by kernel_rfl) (by kernel_rfl) ?_
  simp only [go_sem,Nat.reduceAdd,Nat.reduceSub,Nat.reduceMul,Nat.reduceEqDiff,Nat.reduceLeDiff,Nat.reduceLT,↓reduceIte,Int.reduceToNat,reduceCtorEq,Int.reduceLT,Int.reduceLE,Int.reduceGT,Int.reduceGE,Int.reduceEq,Int.reduceNe,Int.reduceNeg,Int.reduceAdd,Int.reduceSub,Ins.av,Ins.cells,Sp.av,Rg.av,Rg.cells,Eff.cellsD,ha,ha19,hat,wr0 ha.1 ha.2]
  refine y_call (enters_of Tryd.func89 rfl (by decide)) (fun _ => ACalls.pure_use (read_c s hs q 8 (by decide) h0 h1) rfl rfl) ?_
  simp only [go_sem,Nat.reduceAdd,Nat.reduceSub,Nat.reduceMul,Nat.reduceEqDiff,Nat.reduceLeDiff,Nat.reduceLT,↓reduceIte,Int.reduceToNat,reduceCtorEq,Int.reduceLT,Int.reduceLE,Int.reduceGT,Int.reduceGE,Int.reduceEq,Int.reduceNe,Int.reduceNeg,Int.reduceAdd,Int.reduceSub,Ins.av,Ins.cells,Sp.av,Rg.av,Rg.cells,Eff.cellsD,ha,ha19,hat,wr0 ha.1 ha.2]
  exact finN (m1 (m7 o (iw .i64 (r.r7 + 8))) xa (rdL (s.sub q 8))) _ rfl hd
theorem mem34_c (x : Ins) (hx : x.ok) (ho : x.op = 34) (s : Sp) (hs : s.ok) (r : Rg) (next q : Int) (n : Nat) (hn : n ≤ 8) (h0 : 0 ≤ q) (h1 : q + (8 : Nat) ≤ s.byt.length) (w : Bool) (o : Eff) (hd : o.data = []) :
    ACalls Tryd.prog 58 [x.av, s.av, r.av, iv next, .agg [iv q, iv n, .bool w], .agg (o.cellsD dnil)] [] (fun u H => u = .ret (m1 (m2 o q (stL 8 (r.get x.a))) x.a (rdL (s.sub q 8))).av ∧ H = []) := by
  refine ACalls.up ?_
  refine ACalls.intro (cs := []) (n := 140) Tryd.func58 rfl rfl rfl (by kernel_rfl) rfl ?_
  generalize hpost : (fun (u : Out) (H : Heap) => u = Out.ret (m1 (m2 o q (stL 8 (r.get x.a))) x.a (rdL (s.sub q 8))).av ∧ H = []) = post
  have fin : ∀ (e : Eff) H, e = m1 (m2 o q (stL 8 (r.get x.a))) x.a (rdL (s.sub q 8)) → Up 0 post (.ret e.av) H := fun e H h => finv (Eff.av_lt e 0) (by rw [← hpost, ← h]; exact ⟨rfl, rfl⟩) H
  have finN : ∀ (e : Eff) H, e = m1 (m2 o q (stL 8 (r.get x.a))) x.a (rdL (s.sub q 8)) → e.data = [] → Up 0 post (.ret (.agg (e.cellsD dnil))) H := fun e H h hd => .le (.ret (.agg (leL_dnil e))) (LeH.refl _) (by have := fin e H h; unfold Eff.av Eff.cells at this; rwa [hd] at this)
  have ha : 0 ≤ x.a ∧ x.a < 8 := ⟨hx.a0, by have := hx.a7; omega⟩
  have ha19 : x.a.toNat + 1 ≤ 19 := by omega
  have hat := r.at hx.a0 hx.a7
  obtain ⟨op, xa, xb, imm⟩ := x
  simp only at ho ha ha19 hat
  subst ho
  simp only [go_sem,Nat.reduceAdd,Nat.reduceSub,Nat.reduceMul,Nat.reduceEqDiff,Nat.reduceLeDiff,Nat.reduceLT,↓reduceIte,Int.reduceToNat,reduceCtorEq,Int.reduceLT,Int.reduceLE,Int.reduceGT,Int.reduceGE,Int.reduceEq,Int.reduceNe,Int.reduceNeg,Int.reduceAdd,Int.reduceSub,Ins.av,Ins.cells,Sp.av,Rg.av,Rg.cells,Eff.cellsD,ha,ha19,hat,wr0 ha.1 ha.2]
  refine rK_use (enters_of Tryd.func90 rfl (by decide)) (ACalls.pure_use (Bytes_c (r.get xa) 8 (by decide)) rfl (by simp [AV.lt])) ?_
  simp only [go_sem,Nat.reduceAdd,Nat.reduceSub,Nat.reduceMul,Nat.reduceEqDiff,Nat.reduceLeDiff,Nat.reduceLT,↓reduceIte,Int.reduceToNat,reduceCtorEq,Int.reduceLT,Int.reduceLE,Int.reduceGT,Int.reduceGE,Int.reduceEq,Int.reduceNe,Int.reduceNeg,Int.reduceAdd,Int.reduceSub,Ins.av,Ins.cells,Sp.av,Rg.av,Rg.cells,Eff.cellsD,ha,ha19,hat,wr0 ha.1 ha.2]
  refine draw [.qu 0 0, .qu 0 0, .qu 0 0, .qu 0 0, .qu 0 0, .qu 0 0, .qu 0 0, .qu 0 0, .qu 0 0, .mn 0] (by kernel_rfl) (by kernel_rfl) ?_
  simp only [go_sem,Nat.reduceAdd,Nat.reduceSub,Nat.reduceMul,Nat.reduceEqDiff,Nat.reduceLeDiff,Nat.reduceLT,↓reduceIte,Int.reduceToNat,reduceCtorEq,Int.reduceLT,Int.reduceLE,Int.reduceGT,Int.reduceGE,Int.reduceEq,Int.reduceNe,Int.reduceNeg,Int.reduceAdd,Int.reduceSub,Ins.av,Ins.cells,Sp.av,Rg.av,Rg.cells,Eff.cellsD,ha,ha19,hat,wr0 ha.1 ha.2]
  refine y_call (enters_of Tryd.func89 rfl (by decide)) (fun _ => ACalls.pure_use (read_c s hs q 8 (by decide) h0 h1) rfl rfl) ?_
  simp only [go_sem,Nat.reduceAdd,Nat.reduceSub,Nat.reduceMul,Nat.reduceEqDiff,Nat.reduceLeDiff,Nat.reduceLT,↓reduceIte,Int.reduceToNat,reduceCtorEq,Int.reduceLT,Int.reduceLE,Int.reduceGT,Int.reduceGE,Int.reduceEq,Int.reduceNe,Int.reduceNeg,Int.reduceAdd,Int.reduceSub,Ins.av,Ins.cells,Sp.av,Rg.av,Rg.cells,Eff.cellsD,ha,ha19,hat,wr0 ha.1 ha.2]
  exact fin (m1 (m2 o q (stL 8 (r.get xa))) xa (rdL (s.sub q 8))) _ rfl
end Go.Proofs.YtojfnagfafoiaaaDoor
