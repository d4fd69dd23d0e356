/- A part of the proof that the last text ends: what functions of the program do, told by plain data. -/
import Derived.Test.YtapglfcaghlpfaaGreatZSO
set_option linter.unusedVariables false
set_option linter.unusedSimpArgs false
namespace Go.Proofs.YtapglfcaghlpfaaGreat
open Go Go.E Go.Maps
set_option maxRecDepth 100000
set_option maxHeartbeats 16000000
theorem csum_sum {l : List Int} : ∀ k, k ≤ l.length → csum l k = (l.take k).sum
  | 0, _ => rfl
  | k + 1, h => by
    unfold csum
    rw [csum_sum k (by omega), List.take_succ_eq_append_getElem (by omega), at_lt (by omega)]
    simp only [List.sum_append, List.sum_cons, List.sum_nil, Int.add_zero]
theorem csum_all {l : List Int} : csum l l.length = l.sum := by rw [csum_sum _ (Nat.le_refl _), List.take_length]
theorem perm_sum {l m : List Int} (h : l.Perm m) : l.sum = m.sum := by
  induction h with
  | nil => rfl
  | cons x _ ih => simp [ih]
  | swap x y l => simp; omega
  | trans _ _ h1 h2 => rw [h1, h2]
theorem cmax_mem {l : List Int} (h : 1 ≤ l.length) : ∀ k, k ≤ l.length → cmax l k ∈ l ∧ ∀ j, j < k → l.getD j default ≤ cmax l k
  | 0, _ => ⟨by unfold cmax; rw [at_lt (by omega)]; exact List.getElem_mem _, fun j hj => by omega⟩
  | k + 1, hk => by
    obtain ⟨h1, h2⟩ := cmax_mem h k (by omega)
    have h3 : l.getD k default ∈ l := by rw [at_lt (by omega)]; exact List.getElem_mem _
    unfold cmax
    refine ⟨?_, fun j hj => ?_⟩
    · rcases Int.le_total (cmax l k) (l.getD k default) with h4 | h4
      · rw [Int.max_eq_right h4]; exact h3
      · rw [Int.max_eq_left h4]; exact h1
    · rcases Nat.lt_or_ge j k with h4 | h4
      · have := h2 j h4; omega
      · obtain rfl : j = k := by omega
        omega
theorem cmin_mem {l : List Int} (h : 1 ≤ l.length) : ∀ k, k ≤ l.length → cmin l k ∈ l ∧ ∀ j, j < k → cmin l k ≤ l.getD j default
  | 0, _ => ⟨by unfold cmin; rw [at_lt (by omega)]; exact List.getElem_mem _, fun j hj => by omega⟩
  | k + 1, hk => by
    obtain ⟨h1, h2⟩ := cmin_mem h k (by omega)
    have h3 : l.getD k default ∈ l := by rw [at_lt (by omega)]; exact List.getElem_mem _
    unfold cmin
    refine ⟨?_, fun j hj => ?_⟩
    · rcases Int.le_total (cmin l k) (l.getD k default) with h4 | h4
      · rw [Int.min_eq_left h4]; exact h1
      · rw [Int.min_eq_right h4]; exact h3
    · rcases Nat.lt_or_ge j k with h4 | h4
      · have := h2 j h4; omega
      · obtain rfl : j = k := by omega
        omega
theorem srt_ends {S : List Int} (h : Srt S) (hl : 2 ≤ S.length) {M m : Int} (hM : M ∈ S ∧ ∀ x ∈ S, x ≤ M) (hm : m ∈ S ∧ ∀ x ∈ S, m ≤ x) : ((S.take (S.length - 1)).drop 1).sum = S.sum - M - m := by
  obtain ⟨a, S, rfl⟩ : ∃ a t, S = a :: t := by cases S; simp at hl; exact ⟨_, _, rfl⟩
  have hS : S ≠ [] := by intro e; subst e; simp at hl
  have e1 : S = S.dropLast ++ [S.getLast hS] := (List.dropLast_concat_getLast hS).symm
  have e2 : ((a :: S).take ((a :: S).length - 1)).drop 1 = S.dropLast := by
    rw [List.length_cons, Nat.add_sub_cancel]
    cases hl' : S.length with
    | zero => simp at hl; omega
    | succ n => rw [List.take_succ_cons, List.drop_succ_cons, List.drop_zero, List.dropLast_eq_take, hl']; rfl
  rw [e2]
  have hp := List.pairwise_cons.1 h
  have ha : a = m := by
    have h1 : m ≤ a := hm.2 a (by simp)
    rcases List.mem_cons.1 hm.1 with h2 | h2
    · exact h2.symm
    · have := hp.1 m h2; omega
  have hb : S.getLast hS = M := by
    have h1 : S.getLast hS ≤ M := hM.2 _ (List.mem_cons_of_mem _ (List.getLast_mem hS))
    have h3 : ∀ x ∈ S, x ≤ S.getLast hS := fun x hx => by
      have h4 := hp.2
      rw [e1] at h4 hx
      obtain ⟨_, _, h5⟩ := List.pairwise_append.1 h4
      rcases List.mem_append.1 hx with h6 | h6
      · exact h5 x h6 _ (by simp)
      · simp at h6; omega
    rcases List.mem_cons.1 hM.1 with h2 | h2
    · have := hp.1 _ (List.getLast_mem hS); omega
    · have := h3 M h2; omega
  have hs : S.sum = S.dropLast.sum + M := by
    rw [← hb]
    conv => lhs; rw [e1]
    simp
  rw [List.sum_cons, hs, ha]; omega
theorem ctd_cnts {l : List Int} (h : 1 ≤ l.length) : (ctd l).sum = (cnts l).1 ∧ ((ctd l).length : Int) = (cnts l).2 := by
  unfold ctd cnts
  by_cases c : (l.length : Int) < 5
  · rw [if_pos c, if_neg (by omega)]
    exact ⟨csum_all.symm, rfl⟩
  · rw [if_neg c, if_pos (by omega)]
    have hl := isort_len (l := l)
    have hp := isort_perm (l := l)
    have hM := cmax_mem h l.length (Nat.le_refl _)
    have hm := cmin_mem h l.length (Nat.le_refl _)
    have hx : ∀ x ∈ isort l, ∃ j, j < l.length ∧ l.getD j default = x := fun x hx => by
      obtain ⟨j, hj, rfl⟩ := List.getElem_of_mem (hp.mem_iff.1 hx)
      exact ⟨j, hj, at_lt hj⟩
    have := srt_ends (isort_srt (l := l)) (by omega) (M := cmax l l.length) (m := cmin l l.length) ⟨hp.mem_iff.2 hM.1, fun x h1 => by obtain ⟨j, hj, rfl⟩ := hx x h1; exact hM.2 j hj⟩ ⟨hp.mem_iff.2 hm.1, fun x h1 => by obtain ⟨j, hj, rfl⟩ := hx x h1; exact hm.2 j hj⟩
    rw [hl] at this
    refine ⟨by rw [this, perm_sum hp, csum_all], ?_⟩
    simp only [List.length_drop, List.length_take, hl]
    omega
theorem ctd_el {l : List Int} : ∀ x ∈ ctd l, x ∈ l := fun x hx => by
  unfold ctd at hx
  split at hx
  · exact hx
  · exact isort_perm.mem_iff.1 (List.mem_of_mem_take (List.mem_of_mem_drop hx))
theorem csum_b {l : List Int} {B : Int} (h : ∀ x ∈ l, -B ≤ x ∧ x ≤ B) : ∀ k, k ≤ l.length → -(B * k) ≤ csum l k ∧ csum l k ≤ B * k
  | 0, _ => by simp [csum]
  | k + 1, hk => by
    have ih := csum_b h k (by omega)
    have := h (l.getD k default) (by rw [at_lt (by omega)]; exact List.getElem_mem _)
    unfold csum
    rw [Int.natCast_succ, Int.mul_add]
    omega
def Bd (l : List Int) : Prop := l.length ≤ 1000 ∧ ∀ x ∈ l, -1000000000000 ≤ x ∧ x ≤ 1000000000000
def O46 : Nat → Sch := fun id => .done
theorem ho46 : Tryz.f46.body.map (okO O46) = some true := by kernel_rfl
def Cf46 : Nat → List AV → (AV → List AV → Sto → Prop) → Kt → List AV → Sto → Prop := fun f args K Q e s => match f with
  | 47 => ent47 args K e s
  | _ => False
def Ct46 : CT := { f := Cf46, y := noYld, z := fun d => false }
theorem Ct46_ok : Ct46.ok Tryz.prog := ok_of_f (fun f args K Q e s h => by
  have h : Cf46 f args K Q e s := h
  unfold Cf46 at h; split at h
  · exact ent47_ok h
  · exact h.elim) (fun _ _ _ _ _ _ _ _ _ h => h)
theorem x46_47 {n : Int} {KK : AV → List AV → Sto → Prop} {QQ : Kt} {ii : At KK} {jj : At QQ} {ee : List AV} {ss : Sto} : xC Ct46 47 [.d (.i n)] KK QQ ii jj ee ss = (KK (.d (.i n)) ee ss) := eq47
theorem c46 : callable Tryz.prog 46 = true := by kernel_rfl
theorem pf46 (l : List Int) (h : Bd l) : PF Tryz.prog 46 [.sl 1 (l.map ic), .v (.func (.func 47) #[] #[])] (fun zz => zz = .ret (.i (csum l l.length))) := by
  obtain ⟨l1, l2⟩ := h
  have hb := csum_b l2
  have s0 : csum l 0 = 0 := rfl
  have s1 : ∀ k, csum l (k + 1) = csum l k + l.getD k default := fun k => rfl
  generalize csum l = S at *
  refine PF_nil (PF_start (O := O46) Ct46_ok hmix ho46 Tryz.func46 c46 rfl Tryz.ntmps46 Tryz.results46 ?_)
  simp (maxSteps := 4000000) +contextual (disch := first | omega | exact qdb_ok (by kernel_rfl) | exact okb_ok (by kernel_rfl)) only [bw1,bw2,bw4,bw5,bw6,bc4,bc5,AV.isSlice,AV.rows,↓reduceIte,Nat.reduceAdd,Nat.reduceSub,List.reduceReplicate,tfb]
  refine loop_s (O := O46) (tb := 0) Ct46_ok hmix (by kernel_rfl) (σ := Nat) (fun i => [(4, .i (S i)), (6, .any), (9, .i i)]) (fun i => i ≤ l.length) (fun i => l.length - i) (fun i => i + 1) 0 (by omega) ?_ ?_
  · simp (maxSteps := 4000000) +contextual (disch := first | omega | exact qdb_ok (by kernel_rfl) | exact okb_ok (by kernel_rfl)) only [bw4,bw6,bc0,bc5,bc6,AV.isNilS,AV.isNoRows,wk,reduceCtorEq,s0]
  intro i hi
  by_cases hlt : i < l.length
  · have hlt' : (i : Int) < l.length := by omega
    have s1i := s1 i
    have hbi := hb (i + 1) hlt
    have hwr : IntKind.i64.wrap (S i + l.getD i default) = S i + l.getD i default := wrap_ok (by rw [← s1i]; omega) (by rw [← s1i]; omega)
    simp (maxSteps := 4000000) +contextual (disch := first | omega | exact qdb_ok (by kernel_rfl) | exact okb_ok (by kernel_rfl)) only [bw1,bw2,bw4,bw5,bw6,bw7,bc0,bc1,bc2,bc3,bc4,bc5,bc6,AV.isNilS,AV.isNoRows,wk,binIs,idxV,AV.isSl,AV.rows,ps,pv,↓reduceIte,reduceCtorEq,Nat.reduceLeDiff,tfb,x46_47,eq_self, hlt', s1i, hwr]
    and_intros <;> first | omega | rfl
  · have hlt' : ¬ (i : Int) < l.length := by omega
    obtain rfl : i = l.length := by omega
    simp (maxSteps := 4000000) +contextual (disch := first | omega | exact qdb_ok (by kernel_rfl) | exact okb_ok (by kernel_rfl)) only [bw1,bw2,bw3,bw5,bw6,bw7,bc0,bc1,bc2,bc3,bc4,bc5,bc6,binIs,AV.outs,AV.outF,packD,↓reduceIte,tfb,eq_self, hlt']
def ent46 (args : List AV) (K : AV → List AV → Sto → Prop) (e : List AV) (s : Sto) : Prop := ent (α := (List Int)) (fun aa => [.sl 1 (aa.map ic), .v (.func (.func 47) #[] #[])]) (fun aa => Bd aa) (fun aa => .i (csum aa aa.length)) args K e s
theorem ent46_ok {args : List AV} {K : AV → List AV → Sto → Prop} {Q : Kt} {e : List AV} {s : Sto} (h : ent46 args K e s) : pcall Tryz.prog 46 args K Q e s := ent_ok (fun aa h => pf46 aa h) h
theorem eq46 {l : List Int} {KK : AV → List AV → Sto → Prop} {ee : List AV} {ss : Sto} : ent46 [.d (.sl 1 (l.map ic)), .d (.v (.func (.func 47) #[] #[]))] KK ee ss = ((Bd l) ∧ KK (.d (.i (csum l l.length))) ee ss) := by
  unfold ent46; rw [ent_iff l (by intro b h; simpa [Prod.ext_iff, and_assoc, Int.ofNat_inj, ints_inj, cals_inj, pcs_inj, skas_inj, scos_inj, ska_inj, rul_inj, sco_inj, cal_inj] using h) rfl]; simp
structure VC (r : Rul) (c : Cal) : Prop where
  blen : r.bases.length ≤ 1000
  base : ∀ x ∈ r.bases, 0 ≤ x ∧ x ≤ 2000
  elem : 0 ≤ c.elem ∧ c.elem < r.bases.length
  under : 0 ≤ c.under ∧ c.under ≤ 2
  mlen : 1 ≤ c.marks.length ∧ c.marks.length ≤ 9
  mark : ∀ y ∈ c.marks, -5 ≤ y ∧ y ≤ 5
def basC (r : Rul) (c : Cal) : Int := r.bases.getD c.elem.toNat default * (10 - 2 * c.under)
def valC (r : Rul) (c : Cal) : Int := rnd (basC r c * (if c.late = true then 11 else 10)) 100 + rnd ((cnts c.marks).1 * basC r c) (100 * (cnts c.marks).2)
theorem basC_b {r : Rul} {c : Cal} (h : VC r c) : 0 ≤ basC r c ∧ basC r c ≤ 20000 := by
  have hb : 0 ≤ r.bases.getD c.elem.toNat default ∧ r.bases.getD c.elem.toNat default ≤ 2000 := by
    rw [at_lt (by have := h.elem; omega)]; exact h.base _ (List.getElem_mem _)
  have hu := h.under
  exact mul_b hb.1 hb.2 (show 0 ≤ 10 - 2 * c.under by omega) (show 10 - 2 * c.under ≤ 10 by omega)
theorem VC.cnt {r : Rul} {c : Cal} (h : VC r c) : (-11000 ≤ (cnts c.marks).1 ∧ (cnts c.marks).1 ≤ 11000) ∧ 1 ≤ (cnts c.marks).2 ∧ (cnts c.marks).2 ≤ 9 := cnts_b h.mlen.1 (by have := h.mlen; omega) fun y hy => by have := h.mark y hy; omega
def O84 : Nat → Sch := fun id => if id = 1 then .one 0 (.one 1 (.one 2 (.one 3 (.one 4 (.one 5 (.one 6 (.one 7 (.one 8 (.one 9 (.one 10 (.one 11 (.done)))))))))))) else .done
theorem O84_1 : O84 1 = .one 0 (.one 1 (.one 2 (.one 3 (.one 4 (.one 5 (.one 6 (.one 7 (.one 8 (.one 9 (.one 10 (.one 11 (.done)))))))))))) := rfl
theorem ho84 : Tryz.f84.body.map (okO O84) = some true := by kernel_rfl
def Cf84 : Nat → List AV → (AV → List AV → Sto → Prop) → Kt → List AV → Sto → Prop := fun f args K Q e s => match f with
  | 44 => ent44 args K e s
  | 45 => ent45 args K e s
  | 46 => ent46 args K e s
  | _ => False
def Ct84 : CT := { f := Cf84, y := noYld, z := fun d => false }
theorem Ct84_ok : Ct84.ok Tryz.prog := ok_of_f (fun f args K Q e s h => by
  have h : Cf84 f args K Q e s := h
  unfold Cf84 at h; split at h
  · exact ent44_ok h
  · exact ent45_ok h
  · exact ent46_ok h
  · exact h.elim) (fun _ _ _ _ _ _ _ _ _ h => h)
theorem x84_44 {l : List Int} {KK : AV → List AV → Sto → Prop} {QQ : Kt} {ii : At KK} {jj : At QQ} {ee : List AV} {ss : Sto} : xC Ct84 44 [.d (.sl 1 (l.map ic))] KK QQ ii jj ee ss = ((1 ≤ l.length ∧ l.length ≤ 12) ∧ KK (.d (.sl 1 ((ctd l).map ic))) ee ss) := eq44
theorem x84_45 {a : Int} {b : Int} {KK : AV → List AV → Sto → Prop} {QQ : Kt} {ii : At KK} {jj : At QQ} {ee : List AV} {ss : Sto} : xC Ct84 45 [.d (.i a), .d (.i b)] KK QQ ii jj ee ss = (((-1000000000 ≤ a ∧ a ≤ 1000000000) ∧ 1 ≤ b ∧ b ≤ 1000000000) ∧ KK (.d (.i (rnd a b))) ee ss) := eq45
theorem x84_46 {l : List Int} {KK : AV → List AV → Sto → Prop} {QQ : Kt} {ii : At KK} {jj : At QQ} {ee : List AV} {ss : Sto} : xC Ct84 46 [.d (.sl 1 (l.map ic)), .d (.v (.func (.func 47) #[] #[]))] KK QQ ii jj ee ss = ((Bd l) ∧ KK (.d (.i (csum l l.length))) ee ss) := eq46
theorem c84 : callable Tryz.prog 84 = true := by kernel_rfl
theorem pf84 (r : Rul) (c : Cal) (h : VC r c) : PF Tryz.prog 84 [r.d, .agg c.c] (fun zz => zz = .ret (.i (valC r c))) := by
  have hel := h.elem
  have hun := h.under
  have hml := h.mlen
  have hcb := h.cnt
  have hbb := basC_b h
  have hct := ctd_cnts hml.1
  have hbd : Bd (ctd c.marks) := ⟨by have := hct.2; omega, fun x hx => by have := h.mark x (ctd_el x hx); omega⟩
  have hbe : ∃ e, r.bases.getD c.elem.toNat default = e := ⟨_, rfl⟩
  obtain ⟨B, hB⟩ := hbe
  have hBb : 0 ≤ B ∧ B ≤ 2000 := by rw [← hB, at_lt (by omega)]; exact h.base _ (List.getElem_mem _)
  have hw : basC r c = B * (10 - 2 * c.under) := by unfold basC; rw [hB]
  have hcs : csum (ctd c.marks) (ctd c.marks).length = (cnts c.marks).1 := by rw [csum_all, hct.1]
  have hcl := hct.2
  have hml12 : c.marks.length ≤ 12 := by omega
  have hrow : (r.bases.map ic).getD c.elem.toNat [] = ic B := by rw [row_at (by omega), hB]
  unfold valC
  rw [hw] at hbb ⊢
  generalize hX : B * (10 - 2 * c.under) = X at *
  generalize hC : cnts c.marks = C at *
  have p2 := mul_c (a := C.1) (A := 11000) (by omega) hcb.1.1 hcb.1.2 hbb.1 hbb.2
  generalize hY : C.1 * X = Y at *
  have k2 := rnd_b (a := Y) (b := 100 * C.2) (A := 220000000) (by omega) (by omega) (by omega)
  by_cases cl : c.late = true
  · have k1 := rnd_b (a := X * 11) (b := 100) (A := 220000) (by omega) (by omega) (by omega)
    refine PF_nil (PF_start (O := O84) Ct84_ok hmix ho84 Tryz.func84 c84 rfl Tryz.ntmps84 Tryz.results84 ?_)
    simp (maxSteps := 4000000) +contextual (disch := first | omega | exact qdb_ok (by kernel_rfl) | exact okb_ok (by kernel_rfl)) only [bw1,bw2,bw3,bw4,bw5,bw6,bw7,bc1,bc2,bc3,bc4,bc5,bc6,bc7,binIs,addF,AV.isPtr,idxV,AV.isSl,AV.isSlice,AV.rows,ps,pv,AV.outs,AV.outF,packD,AV.cells?,↓reduceIte,reduceCtorEq,Nat.reduceAdd,Nat.reduceSub,List.reduceReplicate,Nat.reduceLeDiff,Nat.reduceLT,Nat.reduceBEq,Nat.reduceEqDiff,Int.reduceNeg,Int.reduceLE,tfb,O84_1,x84_44,x84_45,x84_46,hrow, hX, cl, hbd, hcs, hcl, hY, hml12, hml.1]
    refine ⟨hel, by omega, by omega, ?_⟩
    rw [show (10 : Int) + 1 = 11 from rfl]
    exact wrap_ok (by omega) (by omega)
  · have k1 := rnd_b (a := X * 10) (b := 100) (A := 220000) (by omega) (by omega) (by omega)
    have cl := Bool.eq_false_iff.2 cl
    refine PF_nil (PF_start (O := O84) Ct84_ok hmix ho84 Tryz.func84 c84 rfl Tryz.ntmps84 Tryz.results84 ?_)
    simp (maxSteps := 4000000) +contextual (disch := first | omega | exact qdb_ok (by kernel_rfl) | exact okb_ok (by kernel_rfl)) only [bw1,bw2,bw3,bw4,bw5,bw6,bw7,bc1,bc2,bc3,bc4,bc5,bc6,binIs,addF,AV.isPtr,idxV,AV.isSl,AV.isSlice,AV.rows,ps,pv,AV.outs,AV.outF,packD,AV.cells?,↓reduceIte,reduceCtorEq,Nat.reduceAdd,Nat.reduceSub,List.reduceReplicate,Nat.reduceLeDiff,Nat.reduceLT,Nat.reduceBEq,Nat.reduceEqDiff,Int.reduceNeg,Int.reduceLE,tfb,O84_1,x84_44,x84_45,x84_46,hrow, hX, cl, hbd, hcs, hcl, hY, hml12, hml.1]
    refine ⟨hel, by omega, by omega⟩
def ent84 (args : List AV) (K : AV → List AV → Sto → Prop) (e : List AV) (s : Sto) : Prop := ent (α := (Rul) × (Cal)) (fun aa => [aa.1.d, .agg aa.2.c]) (fun aa => VC aa.1 aa.2) (fun aa => .i (valC aa.1 aa.2)) args K e s
theorem ent84_ok {args : List AV} {K : AV → List AV → Sto → Prop} {Q : Kt} {e : List AV} {s : Sto} (h : ent84 args K e s) : pcall Tryz.prog 84 args K Q e s := ent_ok (fun aa h => pf84 aa.1 aa.2 h) h
theorem eq84 {r : Rul} {c : Cal} {KK : AV → List AV → Sto → Prop} {ee : List AV} {ss : Sto} : ent84 [.d (r.d), .d (.agg c.c)] KK ee ss = ((VC r c) ∧ KK (.d (.i (valC r c))) ee ss) := by
  unfold ent84; rw [ent_iff (r, c) (by intro b h; simpa [Prod.ext_iff, and_assoc, Int.ofNat_inj, ints_inj, cals_inj, pcs_inj, skas_inj, scos_inj, ska_inj, rul_inj, sco_inj, cal_inj] using h) rfl]; simp
end Go.Proofs.YtapglfcaghlpfaaGreat
