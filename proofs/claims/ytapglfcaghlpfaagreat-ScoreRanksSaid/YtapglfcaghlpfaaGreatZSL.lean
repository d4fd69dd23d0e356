/- A part of the proof that the last text ends: what functions of the program do, told by plain data. -/
import Derived.Test.YtapglfcaghlpfaaGreatZSJ
set_option linter.unusedVariables false
set_option linter.unusedSimpArgs false
namespace Go.Proofs.YtapglfcaghlpfaaGreat
open Go Go.E Go.Maps
set_option maxRecDepth 100000
set_option maxHeartbeats 16000000
def elR (r : Rul) (s : Ska) : Nat → Int
  | 0 => 0
  | k + 1 => elR r s k + valR r s k
def flR (s : Ska) : Nat → Nat
  | 0 => 0
  | k + 1 => flR s k + if (s.calls.getD k default).fall = true then 1 else 0
def paV (r : Rul) (p : List Int) : Int := rnd ((cnts p).1 * r.factor) (4 * (cnts p).2)
def paR (r : Rul) (s : Ska) : Nat → Int
  | 0 => 0
  | k + 1 => paR r s k + paV r (s.parts.getD k default)
def progR (r : Rul) (s : Ska) : Sco := ⟨elR r s s.calls.length, paR r s s.parts.length, off (flR s s.calls.length) s.over, max 0 (elR r s s.calls.length + paR r s s.parts.length - off (flR s s.calls.length) s.over)⟩
theorem valR_b {r : Rul} {s : Ska} {n : Int} (hv : Valid r s n) {i : Nat} (hi : i < s.calls.length) : -1000000000 ≤ valR r s i ∧ valR r s i ≤ 1000000000 := by
  obtain ⟨q1, ⟨q2, q3⟩, ⟨q4, q5⟩, ⟨q6, q7⟩, q8⟩ := hv.cat hi
  have hjn := hv.jn
  have hcb := cnts_b q7 (by omega) fun y hy => by have := q8 y hy; omega
  have hbs : 0 ≤ r.bases.getD (s.calls.getD i default).elem.toNat default ∧ r.bases.getD (s.calls.getD i default).elem.toNat default ≤ 2000 := by
    rw [at_lt (by omega)]; exact hv.base _ (List.getElem_mem _)
  unfold valR
  generalize s.calls.getD i default = x at *
  generalize r.bases.getD x.elem.toNat default = B at *
  generalize cnts x.marks = C at *
  have p1 := mul_b hbs.1 hbs.2 (show 0 ≤ 10 - 2 * x.under by omega) (show 10 - 2 * x.under ≤ 10 by omega)
  generalize B * (10 - 2 * x.under) = p at *
  have p2 := mul_c (a := C.1) (A := 11000) (by omega) hcb.1.1 hcb.1.2 p1.1 p1.2
  generalize C.1 * p = q at *
  have k2 := rnd_b (a := q) (b := 100 * C.2) (A := 220000000) (by omega) (by omega) (by omega)
  split
  · split
    · have k1 := rnd_b (a := p * 11) (b := 100) (A := 220000) (by omega) (by omega) (by omega)
      omega
    · have k1 := rnd_b (a := p * 10) (b := 100) (A := 220000) (by omega) (by omega) (by omega)
      omega
  · omega
theorem Valid.pat {r : Rul} {s : Ska} {n : Int} (h : Valid r s n) {i : Nat} (hi : i < s.parts.length) : (((s.parts.getD i default).length : Int) = n ∧ 1 ≤ (s.parts.getD i default).length) ∧ ∀ y ∈ s.parts.getD i default, 0 ≤ y ∧ y ≤ 40 := h.part _ (by rw [at_lt hi]; exact List.getElem_mem _)
theorem paV_q {r : Rul} {s : Ska} {n : Int} (hv : Valid r s n) {i : Nat} (hi : i < s.parts.length) : Mks (s.parts.getD i default) ∧ (1 ≤ (cnts (s.parts.getD i default)).2 ∧ (cnts (s.parts.getD i default)).2 ≤ 9) ∧ (-11000000 ≤ (cnts (s.parts.getD i default)).1 * r.factor ∧ (cnts (s.parts.getD i default)).1 * r.factor ≤ 11000000) ∧ -100000000 ≤ paV r (s.parts.getD i default) ∧ paV r (s.parts.getD i default) ≤ 100000000 := by
  obtain ⟨⟨q1, q2⟩, q3⟩ := hv.pat hi
  have hjn := hv.jn
  have hf := hv.factor
  have hmk : Mks (s.parts.getD i default) := Mks.of q2 (by omega) fun y hy => by have := q3 y hy; omega
  have hcb := cnts_b q2 (by omega) fun y hy => by have := q3 y hy; omega
  unfold paV
  generalize cnts (s.parts.getD i default) = C at *
  have p2 := mul_c (a := C.1) (A := 11000) (by omega) hcb.1.1 hcb.1.2 hf.1 hf.2
  generalize C.1 * r.factor = q at *
  have k2 := rnd_b (a := q) (b := 4 * C.2) (A := 11000000) (by omega) (by omega) (by omega)
  exact ⟨hmk, hcb.2, by omega, by omega⟩
def O37 : Nat → Sch := fun id => if id = 6 then .one 0 (.one 2 (.one 3 (.one 4 (.alt (.one 1 (.one 5 (.one 6 (.one 7 (.one 8 (.done)))))) (.one 5 (.one 1 (.one 6 (.one 7 (.one 8 (.done)))))))))) else if id = 13 then .one 0 (.one 2 (.one 3 (.one 4 (.one 5 (.one 6 (.one 7 (.alt (.one 1 (.one 8 (.one 9 (.one 10 (.one 11 (.done)))))) (.one 8 (.one 1 (.one 9 (.one 10 (.one 11 (.done))))))))))))) else .done
theorem O37_6 : O37 6 = .one 0 (.one 2 (.one 3 (.one 4 (.alt (.one 1 (.one 5 (.one 6 (.one 7 (.one 8 (.done)))))) (.one 5 (.one 1 (.one 6 (.one 7 (.one 8 (.done)))))))))) := rfl
theorem O37_13 : O37 13 = .one 0 (.one 2 (.one 3 (.one 4 (.one 5 (.one 6 (.one 7 (.alt (.one 1 (.one 8 (.one 9 (.one 10 (.one 11 (.done)))))) (.one 8 (.one 1 (.one 9 (.one 10 (.one 11 (.done))))))))))))) := rfl
theorem ho37 : Tryz.f37.body.map (okO O37) = some true := by kernel_rfl
def Cf37 : Nat → List AV → (AV → List AV → Sto → Prop) → Kt → List AV → Sto → Prop := fun f args K Q e s => match f with
  | 59 => ent59 args K e s
  | 60 => ent60 args K e s
  | 61 => ent61 args K e s
  | 62 => ent62 args K e s
  | _ => False
def Ct37 : CT := { f := Cf37, y := noYld, z := fun d => false }
theorem Ct37_ok : Ct37.ok Tryz.prog := ok_of_f (fun f args K Q e s h => by
  have h : Cf37 f args K Q e s := h
  unfold Cf37 at h; split at h
  · exact ent59_ok h
  · exact ent60_ok h
  · exact ent61_ok h
  · exact ent62_ok h
  · exact h.elim) (fun _ _ _ _ _ _ _ _ _ h => h)
theorem x37_62 {falls : Nat} {sec : Int} {KK : AV → List AV → Sto → Prop} {QQ : Kt} {ii : At KK} {jj : At QQ} {ee : List AV} {ss : Sto} : xC Ct37 62 [.d (.i (falls : Int)), .d (.i sec)] KK QQ ii jj ee ss = ((falls ≤ 1000 ∧ 0 ≤ sec ∧ sec ≤ 100000) ∧ KK (.d (.i (off falls sec))) ee ss) := eq62
theorem x37_59 {r : Rul} {s : Ska} {i : Nat} {KK : AV → List AV → Sto → Prop} {QQ : Kt} {ii : At KK} {jj : At QQ} {ee : List AV} {ss : Sto} : xC Ct37 59 [.d (r.d), .d (.agg s.c), .d (.i (i : Int))] KK QQ ii jj ee ss = (((∃ n, Valid r s n) ∧ i < s.calls.length) ∧ KK (.d (.i (valR r s i))) ee ss) := eq59
theorem x37_60 {l : List Int} {KK : AV → List AV → Sto → Prop} {QQ : Kt} {ii : At KK} {jj : At QQ} {ee : List AV} {ss : Sto} : xC Ct37 60 [.d (.sl 1 (l.map ic))] KK QQ ii jj ee ss = ((Mks l) ∧ KK (.d (.tup [.i (cnts l).1, .i (cnts l).2])) ee ss) := eq60
theorem x37_61 {a : Int} {b : Int} {KK : AV → List AV → Sto → Prop} {QQ : Kt} {ii : At KK} {jj : At QQ} {ee : List AV} {ss : Sto} : xC Ct37 61 [.d (.i a), .d (.i b)] KK QQ ii jj ee ss = (((-1000000000 ≤ a ∧ a ≤ 1000000000) ∧ 1 ≤ b ∧ b ≤ 1000000000) ∧ KK (.d (.i (rnd a b))) ee ss) := eq61
theorem c37 : callable Tryz.prog 37 = true := by kernel_rfl
theorem pf37 (r : Rul) (s : Ska) (h : ∃ n, Valid r s n) : PF Tryz.prog 37 [r.d, .agg s.c] (fun zz => zz = .ret (.agg (progR r s).c)) := by
  obtain ⟨n, hv⟩ := h
  have hex : ∃ n, Valid r s n := ⟨n, hv⟩
  have hcl := hv.calls
  have hpl := hv.parts
  have hov := hv.over
  have e0 : elR r s 0 = 0 := rfl
  have f0 : flR s 0 = 0 := rfl
  have p0 : paR r s 0 = 0 := rfl
  have e1 : ∀ k, elR r s (k + 1) = elR r s k + valR r s k := fun k => rfl
  have f1 : ∀ k, flR s (k + 1) = flR s k + if (s.calls.getD k default).fall = true then 1 else 0 := fun k => rfl
  have p1 : ∀ k, paR r s (k + 1) = paR r s k + paV r (s.parts.getD k default) := fun k => rfl
  have eb : ∀ k, k ≤ s.calls.length → -1000000000 * (k : Int) ≤ elR r s k ∧ elR r s k ≤ 1000000000 * k ∧ flR s k ≤ k := fun k => by
    induction k with
    | zero => intro _; rw [e0, f0]; omega
    | succ k ih =>
      intro hk
      have := ih (by omega)
      have h2 := valR_b hv (i := k) (by omega)
      rw [e1, f1]
      split <;> omega
  have pb : ∀ k, k ≤ s.parts.length → -100000000 * (k : Int) ≤ paR r s k ∧ paR r s k ≤ 100000000 * k := fun k => by
    induction k with
    | zero => intro _; rw [p0]; omega
    | succ k ih =>
      intro hk
      have := ih (by omega)
      have h2 := (paV_q hv (i := k) (by omega)).2.2.2
      rw [p1]; omega
  unfold progR
  generalize elR r s = E at e0 e1 eb ⊢
  generalize flR s = F at f0 f1 eb ⊢
  generalize paR r s = A at p0 p1 pb ⊢
  refine PF_nil (PF_start (O := O37) Ct37_ok hmix ho37 Tryz.func37 c37 rfl Tryz.ntmps37 Tryz.results37 ?_)
  simp (maxSteps := 4000000) +contextual (disch := first | omega | exact qdb_ok (by kernel_rfl) | exact okb_ok (by kernel_rfl)) only [bw1,bw2,bw5,bw6,bc3,bc4,bc5,bc6,AV.cells?,↓reduceIte,reduceCtorEq,Nat.reduceAdd,Nat.reduceSub,List.reduceReplicate,Nat.reduceLT,Nat.reduceBEq,Nat.reduceEqDiff,tfb]
  refine loop_u (O := O37) (tb := 0) Ct37_ok hmix (by kernel_rfl) (σ := Nat) (fun i => [(6, .i (F i : Nat)), (7, .i i)]) (fun i => [(6, [.i (E i), .i 0, .i 0, .i 0])]) (fun i => i ≤ s.calls.length) (fun i => s.calls.length - i) (fun i => i + 1) 0 (by omega) ?_ ?_
  · simp (maxSteps := 4000000) +contextual (disch := first | omega | exact qdb_ok (by kernel_rfl) | exact okb_ok (by kernel_rfl)) only [bw4,bw5,bw6,bc0,bc3,bc5,bc6,AV.isNilS,AV.isNoRows,wk,↓reduceIte,reduceCtorEq,Nat.reduceEqDiff,eq_self, e0, f0]
  intro i hi
  have ebi := eb i hi
  by_cases hlt : i < s.calls.length
  · have hlt' : (i : Int) < s.calls.length := by omega
    have vb := valR_b hv hlt
    have e1i := e1 i
    have f1i := f1 i
    have hwr : IntKind.i64.wrap (E i + valR r s i) = E i + valR r s i := wrap_ok (by omega) (by omega)
    by_cases c : (s.calls.getD i default).fall = true
    · rw [if_pos c] at f1i
      simp (maxSteps := 4000000) +contextual (disch := first | omega | exact qdb_ok (by kernel_rfl) | exact okb_ok (by kernel_rfl)) only [bw1,bw2,bw3,bw4,bw5,bw6,bw7,bc0,bc1,bc2,bc3,bc4,bc5,bc6,AV.isNilS,AV.isNoRows,wk,binIs,addF,AV.isPtr,idxV,AV.isSl,AV.isSlice,AV.rows,ps,pv,AV.dl,AV.cells?,AV.menc,AV.one,D.one,Value.oneCell',↓reduceIte,reduceCtorEq,Nat.reduceAdd,Nat.reduceLeDiff,Nat.reduceEqDiff,tfb,O37_6,x37_59,eq_self, hlt', hex, c, e1i, f1i, hwr]
      and_intros <;> first | omega | rfl
    · rw [if_neg c] at f1i
      have c := Bool.eq_false_iff.2 c
      simp (maxSteps := 4000000) +contextual (disch := first | omega | exact qdb_ok (by kernel_rfl) | exact okb_ok (by kernel_rfl)) only [bw1,bw2,bw3,bw4,bw5,bw6,bw7,bc0,bc1,bc2,bc3,bc4,bc5,bc6,AV.isNilS,AV.isNoRows,wk,binIs,addF,AV.isPtr,idxV,AV.isSl,AV.isSlice,AV.rows,ps,pv,AV.dl,AV.cells?,AV.menc,AV.one,D.one,Value.oneCell',↓reduceIte,reduceCtorEq,Nat.reduceAdd,Nat.reduceLeDiff,Nat.reduceEqDiff,tfb,O37_6,x37_59,eq_self, hlt', hex, c, e1i, f1i, hwr]
      and_intros <;> first | omega | rfl
  have hlt' : ¬ (i : Int) < s.calls.length := by omega
  obtain rfl : i = s.calls.length := by omega
  simp (maxSteps := 4000000) +contextual (disch := first | omega | exact qdb_ok (by kernel_rfl) | exact okb_ok (by kernel_rfl)) only [bw1,bw2,bw4,bw5,bw6,bw7,bc0,bc1,bc2,bc3,bc4,bc5,bc6,binIs,addF,AV.isPtr,AV.isSlice,AV.rows,↓reduceIte,reduceCtorEq,Nat.reduceAdd,Nat.reduceLeDiff,Nat.reduceEqDiff,tfb,eq_self, hlt']
  have ebe := eb s.calls.length (Nat.le_refl _)
  refine loop_u (O := O37) (tb := 0) Ct37_ok hmix (by kernel_rfl) (σ := Nat) (fun j => [(8, .i j), (9, .any), (10, .any)]) (fun j => [(6, [.i (E s.calls.length), .i (A j), .i 0, .i 0])]) (fun j => j ≤ s.parts.length) (fun j => s.parts.length - j) (fun j => j + 1) 0 (by omega) ?_ ?_
  · simp (maxSteps := 4000000) +contextual (disch := first | omega | exact qdb_ok (by kernel_rfl) | exact okb_ok (by kernel_rfl)) only [bw4,bw5,bw6,bc0,bc3,bc5,bc6,AV.isNilS,AV.isNoRows,wk,↓reduceIte,reduceCtorEq,Nat.reduceEqDiff,eq_self, p0]
  intro j hj
  have pbj := pb j hj
  by_cases hjt : j < s.parts.length
  · have hjt' : (j : Int) < s.parts.length := by omega
    obtain ⟨w1, w2, w3, w4⟩ := paV_q hv hjt
    have p1j := p1 j
    have hpv : paV r (s.parts.getD j default) = rnd ((cnts (s.parts.getD j default)).1 * r.factor) (4 * (cnts (s.parts.getD j default)).2) := rfl
    rw [hpv] at p1j w4
    generalize hC : cnts (s.parts.getD j default) = C at *
    generalize hq : C.1 * r.factor = q at *
    have hwr : IntKind.i64.wrap (A j + rnd q (4 * C.2)) = A j + rnd q (4 * C.2) := wrap_ok (by omega) (by omega)
    simp (maxSteps := 4000000) +contextual (disch := first | omega | exact qdb_ok (by kernel_rfl) | exact okb_ok (by kernel_rfl)) only [bw1,bw2,bw3,bw4,bw5,bw6,bw7,bc0,bc1,bc2,bc3,bc4,bc5,bc6,AV.isNilS,AV.isNoRows,wk,binIs,addF,AV.isPtr,idxV,AV.isSl,AV.isSlice,AV.rows,ps,pv,extV,extS,AV.cells?,AV.menc,AV.one,D.one,Value.oneCell',↓reduceIte,reduceCtorEq,Nat.reduceAdd,Nat.reduceLeDiff,Nat.reduceLT,Nat.reduceEqDiff,Int.reduceNeg,tfb,O37_13,x37_60,x37_61,eq_self, hjt', hC, hq, p1j, hwr]
    and_intros <;> first | omega | exact w1 | rfl
  have hjt' : ¬ (j : Int) < s.parts.length := by omega
  obtain rfl : j = s.parts.length := by omega
  have hofb := off_b (f := F s.calls.length) hov.1 (by omega) (by omega)
  simp (maxSteps := 4000000) +contextual (disch := first | omega | exact qdb_ok (by kernel_rfl) | exact okb_ok (by kernel_rfl)) only [bw1,bw2,bw3,bw4,bw5,bw6,bw7,bc0,bc1,bc2,bc3,bc4,bc5,bc6,binIs,addF,AV.isPtr,AV.isSlice,AV.rows,AV.outs,AV.outF,packD,AV.dl,AV.cells?,AV.menc,AV.one,D.one,Value.oneCell',↓reduceIte,reduceCtorEq,Nat.reduceAdd,Nat.reduceLeDiff,Nat.reduceEqDiff,tfb,x37_62,eq_self, hjt']
  and_intros <;> omega
def ent37 (args : List AV) (K : AV → List AV → Sto → Prop) (e : List AV) (s : Sto) : Prop := ent (α := (Rul) × (Ska)) (fun aa => [aa.1.d, .agg aa.2.c]) (fun aa => ∃ n, Valid aa.1 aa.2 n) (fun aa => .agg (progR aa.1 aa.2).c) args K e s
theorem ent37_ok {args : List AV} {K : AV → List AV → Sto → Prop} {Q : Kt} {e : List AV} {s : Sto} (h : ent37 args K e s) : pcall Tryz.prog 37 args K Q e s := ent_ok (fun aa h => pf37 aa.1 aa.2 h) h
theorem eq37 {r : Rul} {s : Ska} {KK : AV → List AV → Sto → Prop} {ee : List AV} {ss : Sto} : ent37 [.d (r.d), .d (.agg s.c)] KK ee ss = ((∃ n, Valid r s n) ∧ KK (.d (.agg (progR r s).c)) ee ss) := by
  unfold ent37; rw [ent_iff (r, s) (by intro b h; simpa [Prod.ext_iff, and_assoc, Int.ofNat_inj, ints_inj, cals_inj, pcs_inj, skas_inj, scos_inj, ska_inj, rul_inj, sco_inj, cal_inj] using h) rfl]; simp
end Go.Proofs.YtapglfcaghlpfaaGreat
