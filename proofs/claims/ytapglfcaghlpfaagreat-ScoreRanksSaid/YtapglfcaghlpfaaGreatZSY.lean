/- A part of the proof that the last text ends: what functions of the program do, told by plain data. -/
import Derived.Test.YtapglfcaghlpfaaGreatZSX
set_option linter.unusedVariables false
set_option linter.unusedSimpArgs false
namespace Go.Proofs.YtapglfcaghlpfaaGreat
open Go Go.E Go.Maps
set_option maxRecDepth 100000
set_option maxHeartbeats 16000000
def fl1 (c : Cal) : Nat := if c.fall = true then 1 else 0
theorem fl1_b (c : Cal) : fl1 c ≤ 1 := by unfold fl1; split <;> omega
def flL (l : List Cal) : Nat → Nat
  | 0 => 0
  | k + 1 => flL l k + fl1 (l.getD k default)
theorem flL_b {l : List Cal} : ∀ k, flL l k ≤ k
  | 0 => Nat.le_refl _
  | k + 1 => by have := flL_b (l := l) k; have := fl1_b (l.getD k default); unfold flL; omega
theorem flR_L {s : Ska} : ∀ k, flR s k = flL s.calls k
  | 0 => rfl
  | k + 1 => by unfold flR flL; rw [flR_L k]; rfl
def O49 : Nat → Sch := fun id => .done
theorem ho49 : Tryz.f49.body.map (okO O49) = some true := by kernel_rfl
def Cf49 : Nat → List AV → (AV → List AV → Sto → Prop) → Kt → List AV → Sto → Prop := fun f args K Q e s => match f with
  | _ => False
def Ct49 : CT := { f := Cf49, y := noYld, z := fun d => false }
theorem Ct49_ok : Ct49.ok Tryz.prog := ok_of_f (fun f args K Q e s h => by
  have h : Cf49 f args K Q e s := h
  unfold Cf49 at h; split at h
  · exact h.elim) (fun _ _ _ _ _ _ _ _ _ h => h)
theorem c49 : callable Tryz.prog 49 = true := by kernel_rfl
theorem pf49 (c : Cal) : PF Tryz.prog 49 [.agg c.c] (fun zz => zz = .ret (.i (fl1 c : Nat))) := by
  unfold fl1
  by_cases h : c.fall = true
  · rw [if_pos h]
    refine PF_nil (PF_start (O := O49) Ct49_ok hmix ho49 Tryz.func49 c49 rfl Tryz.ntmps49 Tryz.results49 ?_)
    simp (maxSteps := 4000000) +contextual (disch := first | omega | exact qdb_ok (by kernel_rfl) | exact okb_ok (by kernel_rfl)) only [bw1,bw2,bw3,bw4,bw5,bw6,bc2,bc3,bc4,bc5,bc6,bc7,addF,AV.isPtr,AV.outs,AV.outF,packD,AV.cells?,↓reduceIte,reduceCtorEq,Nat.reduceAdd,Nat.reduceSub,List.reduceReplicate,Nat.reduceLeDiff,Nat.reduceLT,tfb,h]
    try rfl
  · rw [if_neg h]
    have h := Bool.eq_false_iff.2 h
    refine PF_nil (PF_start (O := O49) Ct49_ok hmix ho49 Tryz.func49 c49 rfl Tryz.ntmps49 Tryz.results49 ?_)
    simp (maxSteps := 4000000) +contextual (disch := first | omega | exact qdb_ok (by kernel_rfl) | exact okb_ok (by kernel_rfl)) only [bw1,bw2,bw3,bw4,bw5,bw6,bc2,bc3,bc4,bc5,bc6,addF,AV.isPtr,AV.outs,AV.outF,packD,AV.cells?,↓reduceIte,reduceCtorEq,Nat.reduceAdd,Nat.reduceSub,List.reduceReplicate,Nat.reduceLeDiff,Nat.reduceLT,tfb,h]
    try rfl
def ent49 (args : List AV) (K : AV → List AV → Sto → Prop) (e : List AV) (s : Sto) : Prop := ent (α := (Cal)) (fun aa => [.agg aa.c]) (fun aa => True) (fun aa => .i (fl1 aa : Nat)) args K e s
theorem ent49_ok {args : List AV} {K : AV → List AV → Sto → Prop} {Q : Kt} {e : List AV} {s : Sto} (h : ent49 args K e s) : pcall Tryz.prog 49 args K Q e s := ent_ok (fun aa h => pf49 aa) h
theorem eq49 {c : Cal} {KK : AV → List AV → Sto → Prop} {ee : List AV} {ss : Sto} : ent49 [.d (.agg c.c)] KK ee ss = (KK (.d (.i (fl1 c : Nat))) ee ss) := by
  unfold ent49; rw [ent_iff c (by intro b h; simpa [Prod.ext_iff, and_assoc, Int.ofNat_inj, ints_inj, cals_inj, pcs_inj, skas_inj, scos_inj, ska_inj, rul_inj, sco_inj, cal_inj, ods_inj, od_inj] using h) rfl]; simp
def O48 : Nat → Sch := fun id => .done
theorem ho48 : Tryz.f48.body.map (okO O48) = some true := by kernel_rfl
def Cf48 : Nat → List AV → (AV → List AV → Sto → Prop) → Kt → List AV → Sto → Prop := fun f args K Q e s => match f with
  | 49 => ent49 args K e s
  | _ => False
def Ct48 : CT := { f := Cf48, y := noYld, z := fun d => false }
theorem Ct48_ok : Ct48.ok Tryz.prog := ok_of_f (fun f args K Q e s h => by
  have h : Cf48 f args K Q e s := h
  unfold Cf48 at h; split at h
  · exact ent49_ok h
  · exact h.elim) (fun _ _ _ _ _ _ _ _ _ h => h)
theorem x48_49 {c : Cal} {KK : AV → List AV → Sto → Prop} {QQ : Kt} {ii : At KK} {jj : At QQ} {ee : List AV} {ss : Sto} : xC Ct48 49 [.d (.agg c.c)] KK QQ ii jj ee ss = (KK (.d (.i (fl1 c : Nat))) ee ss) := eq49
theorem c48 : callable Tryz.prog 48 = true := by kernel_rfl
theorem pf48 (l : List Cal) (h : l.length ≤ 1000) : PF Tryz.prog 48 [.sl 6 (l.map Cal.c), .v (.func (.func 49) #[] #[])] (fun zz => zz = .ret (.i (flL l l.length : Nat))) := by
  have hb := flL_b (l := l)
  have s0 : flL l 0 = 0 := rfl
  have s1 : ∀ k, flL l (k + 1) = flL l k + fl1 (l.getD k default) := fun k => rfl
  generalize flL l = S at *
  refine PF_nil (PF_start (O := O48) Ct48_ok hmix ho48 Tryz.func48 c48 rfl Tryz.ntmps48 Tryz.results48 ?_)
  simp (maxSteps := 4000000) +contextual (disch := first | omega | exact qdb_ok (by kernel_rfl) | exact okb_ok (by kernel_rfl)) only [bw1,bw2,bw4,bw5,bw6,bc4,bc5,AV.isSlice,AV.rows,↓reduceIte,Nat.reduceAdd,Nat.reduceSub,List.reduceReplicate,tfb]
  refine loop_s (O := O48) (tb := 0) Ct48_ok hmix (by kernel_rfl) (σ := Nat) (fun i => [(4, .i (S i : Nat)), (6, .any), (9, .i i)]) (fun i => i ≤ l.length) (fun i => l.length - i) (fun i => i + 1) 0 (by omega) ?_ ?_
  · simp (maxSteps := 4000000) +contextual (disch := first | omega | exact qdb_ok (by kernel_rfl) | exact okb_ok (by kernel_rfl)) only [bw4,bw6,bc0,bc5,bc6,AV.isNilS,AV.isNoRows,wk,reduceCtorEq,s0]
  intro i hi
  have hbi := hb i
  by_cases hlt : i < l.length
  · have hlt' : (i : Int) < l.length := by omega
    have s1i := s1 i
    have hb1 := fl1_b (l.getD i default)
    simp (maxSteps := 4000000) +contextual (disch := first | omega | exact qdb_ok (by kernel_rfl) | exact okb_ok (by kernel_rfl)) only [bw1,bw2,bw4,bw5,bw6,bw7,bc0,bc1,bc2,bc3,bc4,bc5,bc6,AV.isNilS,AV.isNoRows,wk,binIs,idxV,AV.isSl,AV.rows,ps,pv,AV.dl,AV.cells?,AV.menc,AV.one,D.one,Value.oneCell',↓reduceIte,reduceCtorEq,Nat.reduceAdd,Nat.reduceLeDiff,Nat.reduceLT,tfb,x48_49,eq_self, hlt', s1i]
    and_intros <;> first | omega | rfl
  · have hlt' : ¬ (i : Int) < l.length := by omega
    obtain rfl : i = l.length := by omega
    simp (maxSteps := 4000000) +contextual (disch := first | omega | exact qdb_ok (by kernel_rfl) | exact okb_ok (by kernel_rfl)) only [bw1,bw2,bw3,bw5,bw6,bw7,bc0,bc1,bc2,bc3,bc4,bc5,bc6,binIs,AV.outs,AV.outF,packD,↓reduceIte,tfb,eq_self, hlt']
structure VP (r : Rul) (l : List Int) : Prop where
  factor : 0 ≤ r.factor ∧ r.factor ≤ 1000
  len : 1 ≤ l.length ∧ l.length ≤ 9
  mark : ∀ y ∈ l, 0 ≤ y ∧ y ≤ 40
def ent48 (args : List AV) (K : AV → List AV → Sto → Prop) (e : List AV) (s : Sto) : Prop := ent (α := (List Cal)) (fun aa => [.sl 6 (aa.map Cal.c), .v (.func (.func 49) #[] #[])]) (fun aa => aa.length ≤ 1000) (fun aa => .i (flL aa aa.length : Nat)) args K e s
theorem ent48_ok {args : List AV} {K : AV → List AV → Sto → Prop} {Q : Kt} {e : List AV} {s : Sto} (h : ent48 args K e s) : pcall Tryz.prog 48 args K Q e s := ent_ok (fun aa h => pf48 aa h) h
theorem eq48 {l : List Cal} {KK : AV → List AV → Sto → Prop} {ee : List AV} {ss : Sto} : ent48 [.d (.sl 6 (l.map Cal.c)), .d (.v (.func (.func 49) #[] #[]))] KK ee ss = ((l.length ≤ 1000) ∧ KK (.d (.i (flL l l.length : Nat))) ee ss) := by
  unfold ent48; rw [ent_iff l (by intro b h; simpa [Prod.ext_iff, and_assoc, Int.ofNat_inj, ints_inj, cals_inj, pcs_inj, skas_inj, scos_inj, ska_inj, rul_inj, sco_inj, cal_inj, ods_inj, od_inj] using h) rfl]; simp
def O43 : Nat → Sch := fun id => if id = 2 then .one 0 (.one 2 (.one 5 (.one 6 (.one 7 (.alt (.one 1 (.one 3 (.one 4 (.one 8 (.one 9 (.done)))))) (.one 3 (.one 1 (.one 4 (.one 8 (.one 9 (.done))))))))))) else .done
theorem O43_2 : O43 2 = .one 0 (.one 2 (.one 5 (.one 6 (.one 7 (.alt (.one 1 (.one 3 (.one 4 (.one 8 (.one 9 (.done)))))) (.one 3 (.one 1 (.one 4 (.one 8 (.one 9 (.done))))))))))) := rfl
theorem ho43 : Tryz.f43.body.map (okO O43) = some true := by kernel_rfl
def Cf43 : Nat → List AV → (AV → List AV → Sto → Prop) → Kt → List AV → Sto → Prop := fun f args K Q e s => match f with
  | 44 => ent44 args K e s
  | 45 => ent45 args K e s
  | 46 => ent46 args K e s
  | _ => False
def Ct43 : CT := { f := Cf43, y := noYld, z := fun d => false }
theorem Ct43_ok : Ct43.ok Tryz.prog := ok_of_f (fun f args K Q e s h => by
  have h : Cf43 f args K Q e s := h
  unfold Cf43 at h; split at h
  · exact ent44_ok h
  · exact ent45_ok h
  · exact ent46_ok h
  · exact h.elim) (fun _ _ _ _ _ _ _ _ _ h => h)
theorem x43_44 {l : List Int} {KK : AV → List AV → Sto → Prop} {QQ : Kt} {ii : At KK} {jj : At QQ} {ee : List AV} {ss : Sto} : xC Ct43 44 [.d (.sl 1 (l.map ic))] KK QQ ii jj ee ss = ((1 ≤ l.length ∧ l.length ≤ 12) ∧ KK (.d (.sl 1 ((ctd l).map ic))) ee ss) := eq44
theorem x43_45 {a : Int} {b : Int} {KK : AV → List AV → Sto → Prop} {QQ : Kt} {ii : At KK} {jj : At QQ} {ee : List AV} {ss : Sto} : xC Ct43 45 [.d (.i a), .d (.i b)] KK QQ ii jj ee ss = (((-1000000000 ≤ a ∧ a ≤ 1000000000) ∧ 1 ≤ b ∧ b ≤ 1000000000) ∧ KK (.d (.i (rnd a b))) ee ss) := eq45
theorem x43_46 {l : List Int} {KK : AV → List AV → Sto → Prop} {QQ : Kt} {ii : At KK} {jj : At QQ} {ee : List AV} {ss : Sto} : xC Ct43 46 [.d (.sl 1 (l.map ic)), .d (.v (.func (.func 47) #[] #[]))] KK QQ ii jj ee ss = ((Bd l) ∧ KK (.d (.i (csum l l.length))) ee ss) := eq46
theorem c43 : callable Tryz.prog 43 = true := by kernel_rfl
theorem pf43 (l : List Int) (r : Rul) (h : VP r l) : PF Tryz.prog 43 [.sl 1 (l.map ic), .ptr [.sl 1 (r.bases.map ic), .i r.factor, .i r.most] 0] (fun zz => zz = .ret (.i (paV r l))) := by
  have hml := h.len
  have hf := h.factor
  have hcb := cnts_b hml.1 (by omega) fun y hy => by have := h.mark y hy; omega
  have hct := ctd_cnts hml.1
  have hbd : Bd (ctd l) := ⟨by have := hct.2; omega, fun x hx => by have := h.mark x (ctd_el x hx); omega⟩
  have hcs : csum (ctd l) (ctd l).length = (cnts l).1 := by rw [csum_all, hct.1]
  have hcl := hct.2
  have hml12 : l.length ≤ 12 := by omega
  unfold paV
  generalize hC : cnts l = C at *
  have p2 := mul_c (a := C.1) (A := 11000) (by omega) hcb.1.1 hcb.1.2 hf.1 hf.2
  generalize hY : C.1 * r.factor = Y at *
  have k2 := rnd_b (a := Y) (b := 4 * C.2) (A := 11000000) (by omega) (by omega) (by omega)
  refine PF_nil (PF_start (O := O43) Ct43_ok hmix ho43 Tryz.func43 c43 rfl Tryz.ntmps43 Tryz.results43 ?_)
  simp (maxSteps := 4000000) +contextual (disch := first | omega | exact qdb_ok (by kernel_rfl) | exact okb_ok (by kernel_rfl)) only [bw1,bw2,bw3,bw4,bw5,bw6,bw7,bc1,bc2,bc3,bc4,bc5,binIs,addF,AV.isPtr,AV.isSlice,AV.rows,AV.outs,AV.outF,packD,↓reduceIte,Nat.reduceAdd,Nat.reduceSub,List.reduceReplicate,Nat.reduceLeDiff,Int.reduceNeg,tfb,O43_2,x43_44,x43_45,x43_46,hbd, hcs, hcl, hY, hml12, hml.1]
  omega
def ent43 (o : Option (List D)) (K : AV → List AV → Sto → Prop) (i : At K) (e : List AV) (s : Sto) : Prop := entS (α := (List Int) × (Rul)) (fun aa => [.sl 1 (aa.1.map ic), .ptr [.sl 1 (aa.2.bases.map ic), .i aa.2.factor, .i aa.2.most] 0]) (fun aa => VP aa.2 aa.1) (fun aa => .i (paV aa.2 aa.1)) o K i e s
theorem ent43_ok {args : List AV} {K : AV → List AV → Sto → Prop} {Q : Kt} {e : List AV} {s : Sto} (h : ent43 (AV.outs s args) K (mk _) e s) : pcall Tryz.prog 43 args K Q e s := entS_ok (fun aa h => pf43 aa.1 aa.2 h) h
theorem eq43 {l : List Int} {r : Rul} {KK : AV → List AV → Sto → Prop} {ii : At KK} {ee : List AV} {ss : Sto} : ent43 (some [.sl 1 (l.map ic), .ptr [.sl 1 (r.bases.map ic), .i r.factor, .i r.most] 0]) KK ii ee ss = ((VP r l) ∧ (.i (paV r l) : D).flat = true ∧ KK (.d (.i (paV r l))) ee ss) := by
  unfold ent43; rw [entS_iff (l, r) (by intro b h; simpa [Prod.ext_iff, and_assoc, Int.ofNat_inj, ints_inj, cals_inj, pcs_inj, skas_inj, scos_inj, ska_inj, rul_inj, sco_inj, cal_inj, ods_inj, od_inj] using h)] <;> simp
theorem csum_vals {r : Rul} {s : Ska} {n : Nat} : ∀ k, k ≤ n → csum (valsR r s n) k = elR r s k
  | 0, _ => rfl
  | k + 1, h => by
    unfold csum elR
    rw [csum_vals k (by omega), at_lt (by rw [valsR_len]; omega)]
    simp [valsR]
structure VK (r : Rul) (s : Ska) : Prop where
  vs : VS r s
  val : ∃ n, Valid r s n
  parts : s.parts.length ≤ 5
  part : ∀ p ∈ s.parts, VP r p
  over : 0 ≤ s.over ∧ s.over ≤ 600
def paL (r : Rul) (l : List (List Int)) : Nat → Int
  | 0 => 0
  | k + 1 => paL r l k + paV r (l.getD k default)
theorem paR_L {r : Rul} {s : Ska} : ∀ k, paR r s k = paL r s.parts k
  | 0 => rfl
  | k + 1 => by unfold paR paL; rw [paR_L k]
theorem paV_b {r : Rul} {l : List Int} (h : VP r l) : -100000000 ≤ paV r l ∧ paV r l ≤ 100000000 := by
  have hml := h.len
  have hf := h.factor
  have hcb := cnts_b hml.1 (by omega) fun y hy => by have := h.mark y hy; omega
  unfold paV
  generalize cnts l = C at *
  have p2 := mul_c (a := C.1) (A := 11000) (by omega) hcb.1.1 hcb.1.2 hf.1 hf.2
  generalize C.1 * r.factor = Y at *
  have k2 := rnd_b (a := Y) (b := 4 * C.2) (A := 11000000) (by omega) (by omega) (by omega)
  omega
theorem paL_b {r : Rul} {l : List (List Int)} (h : ∀ p ∈ l, VP r p) : ∀ k, k ≤ l.length → -100000000 * (k : Int) ≤ paL r l k ∧ paL r l k ≤ 100000000 * k
  | 0, _ => by simp [paL]
  | k + 1, hk => by
    have ih := paL_b h k (by omega)
    have := paV_b (h (l.getD k default) (by rw [at_lt (by omega)]; exact List.getElem_mem _))
    unfold paL; omega
def O51 : Nat → Sch := fun id => .done
theorem ho51 : Tryz.f51.body.map (okO O51) = some true := by kernel_rfl
def Cf51 : Nat → List AV → (AV → List AV → Sto → Prop) → Kt → List AV → Sto → Prop := fun f args K Q e s => match f with
  | 43 => ent43 (AV.outs s args) K (mk _) e s
  | _ => False
def Ct51 : CT := { f := Cf51, y := noYld, z := fun d => false }
theorem Ct51_ok : Ct51.ok Tryz.prog := ok_of_f (fun f args K Q e s h => by
  have h : Cf51 f args K Q e s := h
  unfold Cf51 at h; split at h
  · exact ent43_ok h
  · exact h.elim) (fun _ _ _ _ _ _ _ _ _ h => h)
theorem x51_43 {args : List AV} {KK : AV → List AV → Sto → Prop} {QQ : Kt} {ii : At KK} {jj : At QQ} {ee : List AV} {ss : Sto} : xC Ct51 43 args KK QQ ii jj ee ss = ent43 (AV.outs ss args) KK (mk _) ee ss := id rfl
theorem c51 : callable Tryz.prog 51 = true := by kernel_rfl
theorem pf51 (l : List (List Int)) (r : Rul) (h : l.length ≤ 1000 ∧ ∀ p ∈ l, VP r p) : PF Tryz.prog 51 [.sl 1 (l.map pc), .clo (.func 43) [] [.ptr [.sl 1 (r.bases.map ic), .i r.factor, .i r.most] 0]] (fun zz => zz = .ret (.i (paL r l l.length))) := by
  obtain ⟨h1, h2⟩ := h
  have pb := paL_b h2
  have pvq := fun i (hi : i < l.length) => h2 (l.getD i default) (by rw [at_lt hi]; exact List.getElem_mem _)
  have p0 : paL r l 0 = 0 := rfl
  have p1 : ∀ k, paL r l (k + 1) = paL r l k + paV r (l.getD k default) := fun k => rfl
  generalize paL r l = A at *
  refine PF_nil (PF_start (O := O51) Ct51_ok hmix ho51 Tryz.func51 c51 rfl Tryz.ntmps51 Tryz.results51 ?_)
  simp (maxSteps := 4000000) +contextual (disch := first | omega | exact qdb_ok (by kernel_rfl) | exact okb_ok (by kernel_rfl)) only [bw1,bw2,bw4,bw5,bw6,bc4,bc5,AV.isSlice,AV.rows,↓reduceIte,Nat.reduceAdd,Nat.reduceSub,List.reduceReplicate,tfb]
  refine loop_s (O := O51) (tb := 0) Ct51_ok hmix (by kernel_rfl) (σ := Nat) (fun i => [(4, .i (A i)), (6, .any), (9, .i i)]) (fun i => i ≤ l.length) (fun i => l.length - i) (fun i => i + 1) 0 (by omega) ?_ ?_
  · simp (maxSteps := 4000000) +contextual (disch := first | omega | exact qdb_ok (by kernel_rfl) | exact okb_ok (by kernel_rfl)) only [bw4,bw6,bc0,bc5,bc6,AV.isNilS,AV.isNoRows,wk,reduceCtorEq,p0]
  intro i hi
  by_cases hlt : i < l.length
  · have hlt' : (i : Int) < l.length := by omega
    have p1i := p1 i
    have pvi := pvq i hlt
    have pbi := pb (i + 1) hlt
    have hwr : IntKind.i64.wrap (A i + paV r (l.getD i default)) = A i + paV r (l.getD i default) := wrap_ok (by omega) (by omega)
    simp (maxSteps := 4000000) +contextual (disch := first | omega | exact qdb_ok (by kernel_rfl) | exact okb_ok (by kernel_rfl)) only [bw1,bw2,bw3,bw4,bw5,bw6,bw7,bc0,bc1,bc2,bc3,bc4,bc5,bc6,AV.isNilS,AV.isNoRows,wk,binIs,idxV,AV.isSl,AV.rows,ps,pv,AV.outs,AV.outF,↓reduceIte,reduceCtorEq,Nat.reduceLeDiff,tfb,x51_43,eq43,eq_self, hlt', p1i, pvi, hwr]
    and_intros <;> first | omega | rfl
  · have hlt' : ¬ (i : Int) < l.length := by omega
    obtain rfl : i = l.length := by omega
    simp (maxSteps := 4000000) +contextual (disch := first | omega | exact qdb_ok (by kernel_rfl) | exact okb_ok (by kernel_rfl)) only [bw1,bw2,bw3,bw5,bw6,bw7,bc0,bc1,bc2,bc3,bc4,bc5,bc6,binIs,AV.outs,AV.outF,packD,↓reduceIte,tfb,eq_self, hlt']
def ent51 (o : Option (List D)) (K : AV → List AV → Sto → Prop) (i : At K) (e : List AV) (s : Sto) : Prop := entS (α := (List (List Int)) × (Rul)) (fun aa => [.sl 1 (aa.1.map pc), .clo (.func 43) [] [.ptr [.sl 1 (aa.2.bases.map ic), .i aa.2.factor, .i aa.2.most] 0]]) (fun aa => aa.1.length ≤ 1000 ∧ ∀ p ∈ aa.1, VP aa.2 p) (fun aa => .i (paL aa.2 aa.1 aa.1.length)) o K i e s
theorem ent51_ok {args : List AV} {K : AV → List AV → Sto → Prop} {Q : Kt} {e : List AV} {s : Sto} (h : ent51 (AV.outs s args) K (mk _) e s) : pcall Tryz.prog 51 args K Q e s := entS_ok (fun aa h => pf51 aa.1 aa.2 h) h
theorem eq51 {l : List (List Int)} {r : Rul} {KK : AV → List AV → Sto → Prop} {ii : At KK} {ee : List AV} {ss : Sto} : ent51 (some [.sl 1 (l.map pc), .clo (.func 43) [] [.ptr [.sl 1 (r.bases.map ic), .i r.factor, .i r.most] 0]]) KK ii ee ss = ((l.length ≤ 1000 ∧ ∀ p ∈ l, VP r p) ∧ (.i (paL r l l.length) : D).flat = true ∧ KK (.d (.i (paL r l l.length))) ee ss) := by
  unfold ent51; rw [entS_iff (l, r) (by intro b h; simpa [Prod.ext_iff, and_assoc, Int.ofNat_inj, ints_inj, cals_inj, pcs_inj, skas_inj, scos_inj, ska_inj, rul_inj, sco_inj, cal_inj, ods_inj, od_inj] using h)] <;> simp
def q31_0 : Sch := .alt (.one 11 (.one 12 (.one 13 (.one 14 (.done))))) (.one 13 (.one 11 (.one 12 (.one 14 (.done)))))
def q31_1 : Sch := .alt (.one 7 q31_0) (.one 13 (.one 7 (.one 11 (.one 12 (.one 14 (.done))))))
def q31_2 : Sch := .alt (.one 7 (.one 10 (.one 11 (.one 12 (.one 14 (.done)))))) (.one 10 (.one 7 (.one 11 (.one 12 (.one 14 (.done))))))
def q31_3 : Sch := .alt (.one 7 (.alt (.one 10 q31_0) (.one 13 (.one 10 (.one 11 (.one 12 (.one 14 (.done)))))))) (.alt (.one 10 q31_1) (.one 13 q31_2))
def q31_4 : Sch := .alt (.one 5 q31_1) (.one 13 (.one 5 (.one 7 (.one 11 (.one 12 (.one 14 (.done)))))))
def q31_5 : Sch := .one 5 q31_2
def q31_6 : Sch := .alt (.one 3 q31_1) (.one 13 (.one 3 (.one 7 (.one 11 (.one 12 (.one 14 (.done)))))))
def q31_7 : Sch := .alt (.one 3 q31_2) (.one 10 (.one 3 (.one 7 (.one 11 (.one 12 (.one 14 (.done)))))))
def q31_8 : Sch := .alt (.one 3 q31_3) (.alt (.one 10 q31_6) (.one 13 q31_7))
def q31_9 : Sch := .alt (.one 3 (.one 5 (.one 7 (.one 11 (.one 12 (.one 14 (.done))))))) (.one 5 (.one 3 (.one 7 (.one 11 (.one 12 (.one 14 (.done)))))))
def q31_10 : Sch := .alt (.one 3 q31_4) (.alt (.one 5 q31_6) (.one 13 q31_9))
def q31_11 : Sch := .alt (.one 3 q31_5) (.alt (.one 5 q31_7) (.one 10 q31_9))
def q31_12 : Sch := .one 2 (.one 3 (.one 7 (.one 11 (.one 12 (.one 14 (.done))))))
def q31_13 : Sch := .alt (.one 2 q31_6) (.one 13 q31_12)
def q31_14 : Sch := .alt (.one 2 q31_7) (.one 10 q31_12)
def q31_15 : Sch := .alt (.one 2 q31_8) (.alt (.one 10 q31_13) (.one 13 q31_14))
def q31_16 : Sch := .alt (.one 2 q31_9) (.one 5 q31_12)
def q31_17 : Sch := .alt (.one 2 q31_10) (.alt (.one 5 q31_13) (.one 13 q31_16))
def q31_18 : Sch := .alt (.one 2 q31_11) (.alt (.one 5 q31_14) (.one 10 q31_16))
def q31_19 : Sch := .alt (.one 2 (.alt (.one 3 (.alt (.one 5 q31_3) (.alt (.one 10 q31_4) (.one 13 q31_5)))) (.alt (.one 5 q31_8) (.alt (.one 10 q31_10) (.one 13 q31_11))))) (.alt (.one 5 q31_15) (.alt (.one 10 q31_17) (.one 13 q31_18)))
def q31_20 : Sch := .one 1 q31_12
def q31_21 : Sch := .alt (.one 1 q31_13) (.one 13 q31_20)
def q31_22 : Sch := .one 1 q31_14
def q31_23 : Sch := .alt (.one 1 q31_15) (.alt (.one 10 q31_21) (.one 13 q31_22))
def q31_24 : Sch := .one 1 q31_16
def q31_25 : Sch := .alt (.one 1 q31_17) (.alt (.one 5 q31_21) (.one 13 q31_24))
def q31_26 : Sch := .one 1 q31_18
def q31_27 : Sch := .alt (.one 0 q31_13) (.one 13 (.one 0 q31_12))
def q31_28 : Sch := .alt (.one 0 q31_15) (.alt (.one 10 q31_27) (.one 13 (.one 0 q31_14)))
def q31_29 : Sch := .alt (.one 0 q31_17) (.alt (.one 5 q31_27) (.one 13 (.one 0 q31_16)))
def q31_30 : Sch := .alt (.one 0 q31_21) (.alt (.one 1 q31_27) (.one 13 (.one 0 q31_20)))
def O31 : Nat → Sch := fun id => if id = 3 then .one 4 (.one 6 (.one 8 (.one 9 (.alt (.one 0 (.alt (.one 1 q31_19) (.alt (.one 5 q31_23) (.alt (.one 10 q31_25) (.one 13 q31_26))))) (.alt (.one 1 (.alt (.one 0 q31_19) (.alt (.one 5 q31_28) (.alt (.one 10 q31_29) (.one 13 (.one 0 q31_18)))))) (.alt (.one 5 (.alt (.one 0 q31_23) (.alt (.one 1 q31_28) (.alt (.one 10 q31_30) (.one 13 (.one 0 q31_22)))))) (.alt (.one 10 (.alt (.one 0 q31_25) (.alt (.one 1 q31_29) (.alt (.one 5 q31_30) (.one 13 (.one 0 q31_24)))))) (.one 13 (.one 0 q31_26))))))))) else .done
theorem O31_3 : O31 3 = .one 4 (.one 6 (.one 8 (.one 9 (.alt (.one 0 (.alt (.one 1 q31_19) (.alt (.one 5 q31_23) (.alt (.one 10 q31_25) (.one 13 q31_26))))) (.alt (.one 1 (.alt (.one 0 q31_19) (.alt (.one 5 q31_28) (.alt (.one 10 q31_29) (.one 13 (.one 0 q31_18)))))) (.alt (.one 5 (.alt (.one 0 q31_23) (.alt (.one 1 q31_28) (.alt (.one 10 q31_30) (.one 13 (.one 0 q31_22)))))) (.alt (.one 10 (.alt (.one 0 q31_25) (.alt (.one 1 q31_29) (.alt (.one 5 q31_30) (.one 13 (.one 0 q31_24)))))) (.one 13 (.one 0 q31_26))))))))) := rfl
theorem ho31 : Tryz.f31.body.map (okO O31) = some true := by kernel_rfl
def Cf31 : Nat → List AV → (AV → List AV → Sto → Prop) → Kt → List AV → Sto → Prop := fun f args K Q e s => match f with
  | 46 => ent46 args K e s
  | 48 => ent48 args K e s
  | 50 => ent50 args K e s
  | 51 => ent51 (AV.outs s args) K (mk _) e s
  | 52 => ent52 args K e s
  | _ => False
def Ct31 : CT := { f := Cf31, y := noYld, z := fun d => false }
theorem Ct31_ok : Ct31.ok Tryz.prog := ok_of_f (fun f args K Q e s h => by
  have h : Cf31 f args K Q e s := h
  unfold Cf31 at h; split at h
  · exact ent46_ok h
  · exact ent48_ok h
  · exact ent50_ok h
  · exact ent51_ok h
  · exact ent52_ok h
  · exact h.elim) (fun _ _ _ _ _ _ _ _ _ h => h)
theorem x31_50 {r : Rul} {s : Ska} {KK : AV → List AV → Sto → Prop} {QQ : Kt} {ii : At KK} {jj : At QQ} {ee : List AV} {ss : Sto} : xC Ct31 50 [.d (r.d), .d (.agg s.c)] KK QQ ii jj ee ss = ((VS r s) ∧ KK (.d (.sl 1 ((valsR r s s.calls.length).map ic))) ee ss) := eq50
theorem x31_46 {l : List Int} {KK : AV → List AV → Sto → Prop} {QQ : Kt} {ii : At KK} {jj : At QQ} {ee : List AV} {ss : Sto} : xC Ct31 46 [.d (.sl 1 (l.map ic)), .d (.v (.func (.func 47) #[] #[]))] KK QQ ii jj ee ss = ((Bd l) ∧ KK (.d (.i (csum l l.length))) ee ss) := eq46
theorem x31_48 {l : List Cal} {KK : AV → List AV → Sto → Prop} {QQ : Kt} {ii : At KK} {jj : At QQ} {ee : List AV} {ss : Sto} : xC Ct31 48 [.d (.sl 6 (l.map Cal.c)), .d (.v (.func (.func 49) #[] #[]))] KK QQ ii jj ee ss = ((l.length ≤ 1000) ∧ KK (.d (.i (flL l l.length : Nat))) ee ss) := eq48
theorem x31_51 {args : List AV} {KK : AV → List AV → Sto → Prop} {QQ : Kt} {ii : At KK} {jj : At QQ} {ee : List AV} {ss : Sto} : xC Ct31 51 args KK QQ ii jj ee ss = ent51 (AV.outs ss args) KK (mk _) ee ss := id rfl
theorem x31_52 {falls : Nat} {sec : Int} {KK : AV → List AV → Sto → Prop} {QQ : Kt} {ii : At KK} {jj : At QQ} {ee : List AV} {ss : Sto} : xC Ct31 52 [.d (.i (falls : Int)), .d (.i sec)] KK QQ ii jj ee ss = ((falls ≤ 1000 ∧ 0 ≤ sec ∧ sec ≤ 100000) ∧ KK (.d (.i (off falls sec))) ee ss) := eq52
theorem c31 : callable Tryz.prog 31 = true := by kernel_rfl
theorem pf31 (r : Rul) (s : Ska) (h : VK r s) : PF Tryz.prog 31 [r.d, .agg s.c] (fun zz => zz = .ret (.agg (progR r s).c)) := by
  obtain ⟨hvs, ⟨n, hv⟩, hpl, hpp, hov⟩ := h
  have hcl := hvs.len
  have hvl := valsR_len (r := r) (s := s) (k := s.calls.length)
  have heb : ∀ k, k ≤ s.calls.length → -1000000000 * (k : Int) ≤ elR r s k ∧ elR r s k ≤ 1000000000 * k := fun k => by
    induction k with
    | zero => intro _; unfold elR; omega
    | succ k ih =>
      intro hk
      have := ih (by omega)
      have h2 := valR_b hv (i := k) (by omega)
      unfold elR; omega
  have hbv : Bd (valsR r s s.calls.length) := ⟨by omega, fun x hx => by
    obtain ⟨i, hi, rfl⟩ := List.mem_map.1 hx
    have := valR_b hv (i := i) (List.mem_range.1 hi)
    omega⟩
  have hcs := csum_vals (r := r) (s := s) (n := s.calls.length) s.calls.length (Nat.le_refl _)
  have hfl := flR_L (s := s) s.calls.length
  have hpa := paR_L (r := r) (s := s) s.parts.length
  have hfb := flL_b (l := s.calls) s.calls.length
  have hcl3 : s.calls.length ≤ 1000 := by omega
  have hfb3 : flL s.calls s.calls.length ≤ 1000 := by omega
  have hov3 : s.over ≤ 100000 := by omega
  have hpl3 : s.parts.length ≤ 1000 := by omega
  have hpb := paL_b hpp s.parts.length (Nat.le_refl _)
  have heb1 := heb s.calls.length (Nat.le_refl _)
  have hofb := off_b (f := flL s.calls s.calls.length) hov.1 (by omega) (by omega)
  unfold progR
  rw [hfl, hpa]
  generalize hE : elR r s s.calls.length = E at *
  generalize hF : flL s.calls s.calls.length = F at *
  generalize hA : paL r s.parts s.parts.length = A at *
  refine PF_nil (PF_start (O := O31) Ct31_ok hmix ho31 Tryz.func31 c31 rfl Tryz.ntmps31 Tryz.results31 ?_)
  simp (maxSteps := 4000000) +contextual (disch := first | omega | exact qdb_ok (by kernel_rfl) | exact okb_ok (by kernel_rfl)) only [bw1,bw2,bw3,bw5,bw6,bw7,bc0,bc1,bc2,bc3,bc4,bc5,bc6,binIs,addF,AV.isPtr,ps,pv,AV.outs,AV.outF,packD,AV.dl,AV.cells?,AV.menc,AV.one,D.one,Value.oneCell',↓reduceIte,reduceCtorEq,Nat.reduceAdd,Nat.reduceSub,List.reduceReplicate,Nat.reduceLeDiff,Nat.reduceLT,Nat.reduceBEq,Nat.reduceEqDiff,tfb,q31_0,q31_1,q31_2,q31_3,q31_4,q31_5,q31_6,q31_7,q31_8,q31_9,q31_10,q31_11,q31_12,q31_13,q31_14,q31_15,q31_16,q31_17,q31_18,q31_19,q31_20,q31_21,q31_22,q31_23,q31_24,q31_25,q31_26,q31_27,q31_28,q31_29,q31_30,O31_3,x31_50,x31_46,x31_48,x31_51,eq51,x31_52,hcl3, hfb3, hov3, hpl3, hov.1, hvs, hbv, hvl, hcs, hF, hA]
  exact ⟨hpp, rfl⟩
def ent31 (args : List AV) (K : AV → List AV → Sto → Prop) (e : List AV) (s : Sto) : Prop := ent (α := (Rul) × (Ska)) (fun aa => [aa.1.d, .agg aa.2.c]) (fun aa => VK aa.1 aa.2) (fun aa => .agg (progR aa.1 aa.2).c) args K e s
theorem ent31_ok {args : List AV} {K : AV → List AV → Sto → Prop} {Q : Kt} {e : List AV} {s : Sto} (h : ent31 args K e s) : pcall Tryz.prog 31 args K Q e s := ent_ok (fun aa h => pf31 aa.1 aa.2 h) h
theorem eq31 {r : Rul} {s : Ska} {KK : AV → List AV → Sto → Prop} {ee : List AV} {ss : Sto} : ent31 [.d (r.d), .d (.agg s.c)] KK ee ss = ((VK r s) ∧ KK (.d (.agg (progR r s).c)) ee ss) := by
  unfold ent31; rw [ent_iff (r, s) (by intro b h; simpa [Prod.ext_iff, and_assoc, Int.ofNat_inj, ints_inj, cals_inj, pcs_inj, skas_inj, scos_inj, ska_inj, rul_inj, sco_inj, cal_inj, ods_inj, od_inj] using h) rfl]; simp
end Go.Proofs.YtapglfcaghlpfaaGreat
