/- A part of the proof that the last text ends: what functions of the program do, told by plain data. -/
import Derived.Test.YtapglfcaghlpfaaSX
set_option linter.unusedVariables false
set_option linter.unusedSimpArgs false
namespace Go.Proofs.Ytapglfcaghlpfaa
open Go Go.E Go.Maps
set_option maxRecDepth 100000
set_option maxHeartbeats 16000000
def fl1 (c : Cal) : Nat := if c.fall = true then 1 else 0
theorem fl1_b (c : Cal) : fl1 c ≤ 1 := by unfold fl1; split <;> omega
def flL (l : List Cal) : Nat → Nat
  | 0 => 0
  | k + 1 => flL l k + fl1 (l.getD k default)
theorem flL_b {l : List Cal} : ∀ k, flL l k ≤ k
  | 0 => Nat.le_refl _
  | k + 1 => by have := flL_b (l := l) k; have := fl1_b (l.getD k default); unfold flL; omega
theorem flR_L {s : Ska} : ∀ k, flR s k = flL s.calls k
  | 0 => rfl
  | k + 1 => by unfold flR flL; rw [flR_L k]; rfl
def O61 : Nat → Sch := fun id => .done
theorem ho61 : Try.f61.body.map (okO O61) = some true := by kernel_rfl
def Cf61 : Nat → List AV → (AV → List AV → Sto → Prop) → Kt → List AV → Sto → Prop := fun f args K Q e s => match f with
  | _ => False
def Ct61 : CT := { f := Cf61, y := noYld, z := fun d => false }
theorem ctz61 {d : Nat} : CT.z Ct61 d = (false) := id rfl
theorem Ct61_ok : Ct61.ok Try.prog := ok_of_f (fun f args K Q e s h => by
  have h : Cf61 f args K Q e s := h
  unfold Cf61 at h; split at h
  · exact h.elim) (fun _ _ _ _ _ _ _ _ _ h => h)
theorem c61 : callable Try.prog 61 = true := by kernel_rfl
theorem pf61 (c : Cal) : PF Try.prog 61 [.agg c.c] (fun zz => zz = .ret (.i (fl1 c : Nat))) := by
  unfold fl1
  by_cases h : c.fall = true
  · rw [if_pos h]
    refine PF_nil (PF_start (O := O61) Ct61_ok hmix ho61 Try.func61 c61 rfl Try.ntmps61 Try.results61 ?_)
    simp (maxSteps := 4000000) +contextual (disch := first | omega | exact qdb_ok (by kernel_rfl) | exact okb_ok (by kernel_rfl)) only [bw1,bw2,bw3,bw4,bw5,bw6,bw7,bc0,bc1,bc2,bc3,bc4,bc5,bc6,bc7,setPs,AV.owns,AV.datF,AV.frz,AV.cpy,ifV,isEqB,nilV,nilX,AV.isNilS,AV.isNoRows,wk,dclo,datOf,binIs,addF,AV.isPtr,idxV,AV.isSl,AV.isSlice,AV.rows,ps,pv,extV,extS,AV.outs,AV.outF,packD,AV.dl,fieldV,fieldS,AV.cells?,AV.upr,AV.menc,AV.one,D.one,Value.oneCell',tagOf,AV.isApp,strV,strS,bolV,bolS,slcV,AV.isSlD,asrtS,AV.dcells,D.cells?,stcV,stcS,leafOk,eqDs,eqD,packA,D.val?,↓reduceIte,reduceCtorEq,Nat.reduceAdd,Nat.reduceSub,Nat.reduceMul,List.reduceReplicate,Nat.reduceLeDiff,Nat.reduceLT,Nat.reduceBEq,Nat.reduceEqDiff,Int.reduceNeg,Int.reduceEq,Int.reduceLE,Int.reduceLT,tfb,ctz61,h]
    try rfl
  · rw [if_neg h]
    have h := Bool.eq_false_iff.2 h
    refine PF_nil (PF_start (O := O61) Ct61_ok hmix ho61 Try.func61 c61 rfl Try.ntmps61 Try.results61 ?_)
    simp (maxSteps := 4000000) +contextual (disch := first | omega | exact qdb_ok (by kernel_rfl) | exact okb_ok (by kernel_rfl)) only [bw1,bw2,bw3,bw4,bw5,bw6,bw7,bc0,bc1,bc2,bc3,bc4,bc5,bc6,bc7,setPs,AV.owns,AV.datF,AV.frz,AV.cpy,ifV,isEqB,nilV,nilX,AV.isNilS,AV.isNoRows,wk,dclo,datOf,binIs,addF,AV.isPtr,idxV,AV.isSl,AV.isSlice,AV.rows,ps,pv,extV,extS,AV.outs,AV.outF,packD,AV.dl,fieldV,fieldS,AV.cells?,AV.upr,AV.menc,AV.one,D.one,Value.oneCell',tagOf,AV.isApp,strV,strS,bolV,bolS,slcV,AV.isSlD,asrtS,AV.dcells,D.cells?,stcV,stcS,leafOk,eqDs,eqD,packA,D.val?,↓reduceIte,reduceCtorEq,Nat.reduceAdd,Nat.reduceSub,Nat.reduceMul,List.reduceReplicate,Nat.reduceLeDiff,Nat.reduceLT,Nat.reduceBEq,Nat.reduceEqDiff,Int.reduceNeg,Int.reduceEq,Int.reduceLE,Int.reduceLT,tfb,ctz61,h]
    try rfl
def ent61 (args : List AV) (K : AV → List AV → Sto → Prop) (e : List AV) (s : Sto) : Prop := ent (α := (Cal)) (fun aa => [.agg aa.c]) (fun aa => True) (fun aa => .i (fl1 aa : Nat)) args K e s
theorem ent61_ok {args : List AV} {K : AV → List AV → Sto → Prop} {Q : Kt} {e : List AV} {s : Sto} (h : ent61 args K e s) : pcall Try.prog 61 args K Q e s := ent_ok (fun aa h => pf61 aa) h
theorem eq61 {c : Cal} {KK : AV → List AV → Sto → Prop} {ee : List AV} {ss : Sto} : ent61 [.d (.agg c.c)] KK ee ss = (KK (.d (.i (fl1 c : Nat))) ee ss) := by
  unfold ent61; rw [ent_iff c (by intro b h; simpa [Prod.ext_iff, and_assoc, Int.ofNat_inj, ints_inj, cals_inj, pcs_inj, skas_inj, scos_inj, ska_inj, rul_inj, sco_inj, cal_inj, ods_inj, od_inj] using h) rfl]; simp
def O60 : Nat → Sch := fun id => .done
theorem ho60 : Try.f60.body.map (okO O60) = some true := by kernel_rfl
def Cf60 : Nat → List AV → (AV → List AV → Sto → Prop) → Kt → List AV → Sto → Prop := fun f args K Q e s => match f with
  | 61 => ent61 args K e s
  | _ => False
def Ct60 : CT := { f := Cf60, y := noYld, z := fun d => false }
theorem ctz60 {d : Nat} : CT.z Ct60 d = (false) := id rfl
theorem Ct60_ok : Ct60.ok Try.prog := ok_of_f (fun f args K Q e s h => by
  have h : Cf60 f args K Q e s := h
  unfold Cf60 at h; split at h
  · exact ent61_ok h
  · exact h.elim) (fun _ _ _ _ _ _ _ _ _ h => h)
theorem x60_61 {c : Cal} {KK : AV → List AV → Sto → Prop} {QQ : Kt} {ii : At KK} {jj : At QQ} {ee : List AV} {ss : Sto} : xC Ct60 61 [.d (.agg c.c)] KK QQ ii jj ee ss = (KK (.d (.i (fl1 c : Nat))) ee ss) := eq61
theorem c60 : callable Try.prog 60 = true := by kernel_rfl
theorem pf60 (l : List Cal) (h : l.length ≤ 1000) : PF Try.prog 60 [.sl 6 (l.map Cal.c), .v (.func (.func 61) #[] #[])] (fun zz => zz = .ret (.i (flL l l.length : Nat))) := by
  have hb := flL_b (l := l)
  have s0 : flL l 0 = 0 := rfl
  have s1 : ∀ k, flL l (k + 1) = flL l k + fl1 (l.getD k default) := fun k => rfl
  generalize flL l = S at *
  refine PF_nil (PF_start (O := O60) Ct60_ok hmix ho60 Try.func60 c60 rfl Try.ntmps60 Try.results60 ?_)
  simp (maxSteps := 4000000) +contextual (disch := first | omega | exact qdb_ok (by kernel_rfl) | exact okb_ok (by kernel_rfl)) only [bw1,bw2,bw3,bw4,bw5,bw6,bw7,bc0,bc1,bc2,bc3,bc4,bc5,bc6,bc7,setPs,AV.owns,AV.datF,AV.frz,AV.cpy,ifV,isEqB,nilV,nilX,AV.isNilS,AV.isNoRows,wk,dclo,datOf,binIs,addF,AV.isPtr,idxV,AV.isSl,AV.isSlice,AV.rows,ps,pv,extV,extS,AV.outs,AV.outF,packD,AV.dl,fieldV,fieldS,AV.cells?,AV.upr,AV.menc,AV.one,D.one,Value.oneCell',tagOf,AV.isApp,strV,strS,bolV,bolS,slcV,AV.isSlD,asrtS,AV.dcells,D.cells?,stcV,stcS,leafOk,eqDs,eqD,packA,D.val?,↓reduceIte,reduceCtorEq,Nat.reduceAdd,Nat.reduceSub,Nat.reduceMul,List.reduceReplicate,Nat.reduceLeDiff,Nat.reduceLT,Nat.reduceBEq,Nat.reduceEqDiff,Int.reduceNeg,Int.reduceEq,Int.reduceLE,Int.reduceLT,tfb,ctz60,x60_61]
  refine loop_s (O := O60) (tb := 0) Ct60_ok hmix (by kernel_rfl) (σ := Nat) (fun i => [(4, .i (S i : Nat)), (6, .any), (9, .i i)]) (fun i => i ≤ l.length) (fun i => l.length - i) (fun i => i + 1) 0 (by omega) ?_ ?_
  · simp (maxSteps := 4000000) +contextual (disch := first | omega | exact qdb_ok (by kernel_rfl) | exact okb_ok (by kernel_rfl)) only [bw1,bw2,bw3,bw4,bw5,bw6,bw7,bc0,bc1,bc2,bc3,bc4,bc5,bc6,bc7,setPs,AV.owns,AV.datF,AV.frz,AV.cpy,ifV,isEqB,nilV,nilX,AV.isNilS,AV.isNoRows,wk,dclo,datOf,binIs,addF,AV.isPtr,idxV,AV.isSl,AV.isSlice,AV.rows,ps,pv,extV,extS,AV.outs,AV.outF,packD,AV.dl,fieldV,fieldS,AV.cells?,AV.upr,AV.menc,AV.one,D.one,Value.oneCell',tagOf,AV.isApp,strV,strS,bolV,bolS,slcV,AV.isSlD,asrtS,AV.dcells,D.cells?,stcV,stcS,leafOk,eqDs,eqD,packA,D.val?,↓reduceIte,reduceCtorEq,Nat.reduceAdd,Nat.reduceSub,Nat.reduceMul,List.reduceReplicate,Nat.reduceLeDiff,Nat.reduceLT,Nat.reduceBEq,Nat.reduceEqDiff,Int.reduceNeg,Int.reduceEq,Int.reduceLE,Int.reduceLT,tfb,ctz60,x60_61,s0]
  intro i hi
  have hbi := hb i
  by_cases hlt : i < l.length
  · have hlt' : (i : Int) < l.length := by omega
    have s1i := s1 i
    have hb1 := fl1_b (l.getD i default)
    simp (maxSteps := 4000000) +contextual (disch := first | omega | exact qdb_ok (by kernel_rfl) | exact okb_ok (by kernel_rfl)) only [bw1,bw2,bw3,bw4,bw5,bw6,bw7,bc0,bc1,bc2,bc3,bc4,bc5,bc6,bc7,setPs,AV.owns,AV.datF,AV.frz,AV.cpy,ifV,isEqB,nilV,nilX,AV.isNilS,AV.isNoRows,wk,dclo,datOf,binIs,addF,AV.isPtr,idxV,AV.isSl,AV.isSlice,AV.rows,ps,pv,extV,extS,AV.outs,AV.outF,packD,AV.dl,fieldV,fieldS,AV.cells?,AV.upr,AV.menc,AV.one,D.one,Value.oneCell',tagOf,AV.isApp,strV,strS,bolV,bolS,slcV,AV.isSlD,asrtS,AV.dcells,D.cells?,stcV,stcS,leafOk,eqDs,eqD,packA,D.val?,↓reduceIte,reduceCtorEq,Nat.reduceAdd,Nat.reduceSub,Nat.reduceMul,List.reduceReplicate,Nat.reduceLeDiff,Nat.reduceLT,Nat.reduceBEq,Nat.reduceEqDiff,Int.reduceNeg,Int.reduceEq,Int.reduceLE,Int.reduceLT,tfb,ctz60,x60_61,eq_self, hlt', s1i]
    and_intros <;> first | omega | rfl
  · have hlt' : ¬ (i : Int) < l.length := by omega
    obtain rfl : i = l.length := by omega
    simp (maxSteps := 4000000) +contextual (disch := first | omega | exact qdb_ok (by kernel_rfl) | exact okb_ok (by kernel_rfl)) only [bw1,bw2,bw3,bw4,bw5,bw6,bw7,bc0,bc1,bc2,bc3,bc4,bc5,bc6,bc7,setPs,AV.owns,AV.datF,AV.frz,AV.cpy,ifV,isEqB,nilV,nilX,AV.isNilS,AV.isNoRows,wk,dclo,datOf,binIs,addF,AV.isPtr,idxV,AV.isSl,AV.isSlice,AV.rows,ps,pv,extV,extS,AV.outs,AV.outF,packD,AV.dl,fieldV,fieldS,AV.cells?,AV.upr,AV.menc,AV.one,D.one,Value.oneCell',tagOf,AV.isApp,strV,strS,bolV,bolS,slcV,AV.isSlD,asrtS,AV.dcells,D.cells?,stcV,stcS,leafOk,eqDs,eqD,packA,D.val?,↓reduceIte,reduceCtorEq,Nat.reduceAdd,Nat.reduceSub,Nat.reduceMul,List.reduceReplicate,Nat.reduceLeDiff,Nat.reduceLT,Nat.reduceBEq,Nat.reduceEqDiff,Int.reduceNeg,Int.reduceEq,Int.reduceLE,Int.reduceLT,tfb,ctz60,x60_61,eq_self, hlt', Int.lt_irrefl]
structure VP (r : Rul) (l : List Int) : Prop where
  factor : 0 ≤ r.factor ∧ r.factor ≤ 1000
  len : 1 ≤ l.length ∧ l.length ≤ 9
  mark : ∀ y ∈ l, 0 ≤ y ∧ y ≤ 40
def ent60 (args : List AV) (K : AV → List AV → Sto → Prop) (e : List AV) (s : Sto) : Prop := ent (α := (List Cal)) (fun aa => [.sl 6 (aa.map Cal.c), .v (.func (.func 61) #[] #[])]) (fun aa => aa.length ≤ 1000) (fun aa => .i (flL aa aa.length : Nat)) args K e s
theorem ent60_ok {args : List AV} {K : AV → List AV → Sto → Prop} {Q : Kt} {e : List AV} {s : Sto} (h : ent60 args K e s) : pcall Try.prog 60 args K Q e s := ent_ok (fun aa h => pf60 aa h) h
theorem eq60 {l : List Cal} {KK : AV → List AV → Sto → Prop} {ee : List AV} {ss : Sto} : ent60 [.d (.sl 6 (l.map Cal.c)), .d (.v (.func (.func 61) #[] #[]))] KK ee ss = ((l.length ≤ 1000) ∧ KK (.d (.i (flL l l.length : Nat))) ee ss) := by
  unfold ent60; rw [ent_iff l (by intro b h; simpa [Prod.ext_iff, and_assoc, Int.ofNat_inj, ints_inj, cals_inj, pcs_inj, skas_inj, scos_inj, ska_inj, rul_inj, sco_inj, cal_inj, ods_inj, od_inj] using h) rfl]; simp
theorem eqo60 {l : List Cal} {g1 el1 : Nat} {KK : AV → List AV → Sto → Prop} {ee : List AV} {ss : Sto} : ent60 [.own g1 el1 6 (l.map Cal.c), .d (.v (.func (.func 61) #[] #[]))] KK ee ss = ((l.length ≤ 1000) ∧ (.i (flL l l.length : Nat) : D).flat = true ∧ KK (.d (.i (flL l l.length : Nat))) ee ss) := by
  unfold ent60; rw [ent_iff l (by intro b h; simpa [Prod.ext_iff, and_assoc, Int.ofNat_inj, ints_inj, cals_inj, pcs_inj, skas_inj, scos_inj, ska_inj, rul_inj, sco_inj, cal_inj, ods_inj, od_inj] using h) rfl]; simp
def O55 : Nat → Sch := fun id => if id = 2 then .one 0 (.one 2 (.one 5 (.one 6 (.one 7 (.alt (.one 1 (.one 3 (.one 4 (.one 8 (.one 9 (.done)))))) (.one 3 (.one 1 (.one 4 (.one 8 (.one 9 (.done))))))))))) else .done
theorem O55_2 : O55 2 = .one 0 (.one 2 (.one 5 (.one 6 (.one 7 (.alt (.one 1 (.one 3 (.one 4 (.one 8 (.one 9 (.done)))))) (.one 3 (.one 1 (.one 4 (.one 8 (.one 9 (.done))))))))))) := rfl
theorem ho55 : Try.f55.body.map (okO O55) = some true := by kernel_rfl
def Cf55 : Nat → List AV → (AV → List AV → Sto → Prop) → Kt → List AV → Sto → Prop := fun f args K Q e s => match f with
  | 56 => ent56 args K e s
  | 57 => ent57 args K e s
  | 58 => ent58 args K e s
  | _ => False
def Ct55 : CT := { f := Cf55, y := noYld, z := fun d => false }
theorem ctz55 {d : Nat} : CT.z Ct55 d = (false) := id rfl
theorem Ct55_ok : Ct55.ok Try.prog := ok_of_f (fun f args K Q e s h => by
  have h : Cf55 f args K Q e s := h
  unfold Cf55 at h; split at h
  · exact ent56_ok h
  · exact ent57_ok h
  · exact ent58_ok h
  · exact h.elim) (fun _ _ _ _ _ _ _ _ _ h => h)
theorem x55_56 {l : List Int} {KK : AV → List AV → Sto → Prop} {QQ : Kt} {ii : At KK} {jj : At QQ} {ee : List AV} {ss : Sto} : xC Ct55 56 [.d (.sl 1 (l.map ic))] KK QQ ii jj ee ss = ((1 ≤ l.length ∧ l.length ≤ 12) ∧ KK (.d (.sl 1 ((ctd l).map ic))) ee ss) := eq56
theorem x55_56_m1 {l : List Int} {g1 el1 : Nat} {KK : AV → List AV → Sto → Prop} {QQ : Kt} {ii : At KK} {jj : At QQ} {ee : List AV} {ss : Sto} : xC Ct55 56 [.own g1 el1 1 (l.map ic)] KK QQ ii jj ee ss = ((1 ≤ l.length ∧ l.length ≤ 12) ∧ (.sl 1 ((ctd l).map ic) : D).flat = true ∧ KK (.d (.sl 1 ((ctd l).map ic))) ee ss) := eqo56
theorem x55_57 {a : Int} {b : Int} {KK : AV → List AV → Sto → Prop} {QQ : Kt} {ii : At KK} {jj : At QQ} {ee : List AV} {ss : Sto} : xC Ct55 57 [.d (.i a), .d (.i b)] KK QQ ii jj ee ss = (((-1000000000 ≤ a ∧ a ≤ 1000000000) ∧ 1 ≤ b ∧ b ≤ 1000000000) ∧ KK (.d (.i (rnd a b))) ee ss) := eq57
theorem x55_58 {l : List Int} {KK : AV → List AV → Sto → Prop} {QQ : Kt} {ii : At KK} {jj : At QQ} {ee : List AV} {ss : Sto} : xC Ct55 58 [.d (.sl 1 (l.map ic)), .d (.v (.func (.func 59) #[] #[]))] KK QQ ii jj ee ss = ((Bd l) ∧ KK (.d (.i (csum l l.length))) ee ss) := eq58
theorem x55_58_m1 {l : List Int} {g1 el1 : Nat} {KK : AV → List AV → Sto → Prop} {QQ : Kt} {ii : At KK} {jj : At QQ} {ee : List AV} {ss : Sto} : xC Ct55 58 [.own g1 el1 1 (l.map ic), .d (.v (.func (.func 59) #[] #[]))] KK QQ ii jj ee ss = ((Bd l) ∧ (.i (csum l l.length) : D).flat = true ∧ KK (.d (.i (csum l l.length))) ee ss) := eqo58
theorem c55 : callable Try.prog 55 = true := by kernel_rfl
theorem pf55 (l : List Int) (r : Rul) (h : VP r l) : PF Try.prog 55 [.sl 1 (l.map ic), .ptr [.sl 1 (r.bases.map ic), .i r.factor, .i r.most] 0] (fun zz => zz = .ret (.i (paV r l))) := by
  have hml := h.len
  have hf := h.factor
  have hcb := cnts_b hml.1 (by omega) fun y hy => by have := h.mark y hy; omega
  have hct := ctd_cnts hml.1
  have hbd : Bd (ctd l) := ⟨by have := hct.2; omega, fun x hx => by have := h.mark x (ctd_el x hx); omega⟩
  have hcs : csum (ctd l) (ctd l).length = (cnts l).1 := by rw [csum_all, hct.1]
  have hcl := hct.2
  have hml12 : l.length ≤ 12 := by omega
  unfold paV
  generalize hC : cnts l = C at *
  have p2 := mul_c (a := C.1) (A := 11000) (by omega) hcb.1.1 hcb.1.2 hf.1 hf.2
  generalize hY : C.1 * r.factor = Y at *
  have k2 := rnd_b (a := Y) (b := 4 * C.2) (A := 11000000) (by omega) (by omega) (by omega)
  refine PF_nil (PF_start (O := O55) Ct55_ok hmix ho55 Try.func55 c55 rfl Try.ntmps55 Try.results55 ?_)
  simp (maxSteps := 4000000) +contextual (disch := first | omega | exact qdb_ok (by kernel_rfl) | exact okb_ok (by kernel_rfl)) only [bw1,bw2,bw3,bw4,bw5,bw6,bw7,bc0,bc1,bc2,bc3,bc4,bc5,bc6,bc7,setPs,AV.owns,AV.datF,AV.frz,AV.cpy,ifV,isEqB,nilV,nilX,AV.isNilS,AV.isNoRows,wk,dclo,datOf,binIs,addF,AV.isPtr,idxV,AV.isSl,AV.isSlice,AV.rows,ps,pv,extV,extS,AV.outs,AV.outF,packD,AV.dl,fieldV,fieldS,AV.cells?,AV.upr,AV.menc,AV.one,D.one,Value.oneCell',tagOf,AV.isApp,strV,strS,bolV,bolS,slcV,AV.isSlD,asrtS,AV.dcells,D.cells?,stcV,stcS,leafOk,eqDs,eqD,packA,D.val?,↓reduceIte,reduceCtorEq,Nat.reduceAdd,Nat.reduceSub,Nat.reduceMul,List.reduceReplicate,Nat.reduceLeDiff,Nat.reduceLT,Nat.reduceBEq,Nat.reduceEqDiff,Int.reduceNeg,Int.reduceEq,Int.reduceLE,Int.reduceLT,tfb,ctz55,O55_2,x55_56,x55_56_m1,x55_57,x55_58,x55_58_m1,hbd, hcs, hcl, hY, hml12, hml.1]
  omega
def ent55 (o : Option (List D)) (K : AV → List AV → Sto → Prop) (i : At K) (e : List AV) (s : Sto) : Prop := entS (α := (List Int) × (Rul)) (fun aa => [.sl 1 (aa.1.map ic), .ptr [.sl 1 (aa.2.bases.map ic), .i aa.2.factor, .i aa.2.most] 0]) (fun aa => VP aa.2 aa.1) (fun aa => .i (paV aa.2 aa.1)) o K i e s
theorem ent55_ok {args : List AV} {K : AV → List AV → Sto → Prop} {Q : Kt} {e : List AV} {s : Sto} (h : ent55 (AV.outs s args) K (mk _) e s) : pcall Try.prog 55 args K Q e s := entS_ok (fun aa h => pf55 aa.1 aa.2 h) h
theorem eq55 {l : List Int} {r : Rul} {KK : AV → List AV → Sto → Prop} {ii : At KK} {ee : List AV} {ss : Sto} : ent55 (some [.sl 1 (l.map ic), .ptr [.sl 1 (r.bases.map ic), .i r.factor, .i r.most] 0]) KK ii ee ss = ((VP r l) ∧ (.i (paV r l) : D).flat = true ∧ KK (.d (.i (paV r l))) ee ss) := by
  unfold ent55; rw [entS_iff (l, r) (by intro b h; simpa [Prod.ext_iff, and_assoc, Int.ofNat_inj, ints_inj, cals_inj, pcs_inj, skas_inj, scos_inj, ska_inj, rul_inj, sco_inj, cal_inj, ods_inj, od_inj] using h)] <;> simp
theorem csum_vals {r : Rul} {s : Ska} {n : Nat} : ∀ k, k ≤ n → csum (valsR r s n) k = elR r s k
  | 0, _ => rfl
  | k + 1, h => by
    unfold csum elR
    rw [csum_vals k (by omega), at_lt (by rw [valsR_len]; omega)]
    simp [valsR]
structure VK (r : Rul) (s : Ska) : Prop where
  vs : VS r s
  val : ∃ n, Valid r s n
  parts : s.parts.length ≤ 5
  part : ∀ p ∈ s.parts, VP r p
  over : 0 ≤ s.over ∧ s.over ≤ 600
def paL (r : Rul) (l : List (List Int)) : Nat → Int
  | 0 => 0
  | k + 1 => paL r l k + paV r (l.getD k default)
theorem paR_L {r : Rul} {s : Ska} : ∀ k, paR r s k = paL r s.parts k
  | 0 => rfl
  | k + 1 => by unfold paR paL; rw [paR_L k]
theorem paV_b {r : Rul} {l : List Int} (h : VP r l) : -100000000 ≤ paV r l ∧ paV r l ≤ 100000000 := by
  have hml := h.len
  have hf := h.factor
  have hcb := cnts_b hml.1 (by omega) fun y hy => by have := h.mark y hy; omega
  unfold paV
  generalize cnts l = C at *
  have p2 := mul_c (a := C.1) (A := 11000) (by omega) hcb.1.1 hcb.1.2 hf.1 hf.2
  generalize C.1 * r.factor = Y at *
  have k2 := rnd_b (a := Y) (b := 4 * C.2) (A := 11000000) (by omega) (by omega) (by omega)
  omega
theorem paL_b {r : Rul} {l : List (List Int)} (h : ∀ p ∈ l, VP r p) : ∀ k, k ≤ l.length → -100000000 * (k : Int) ≤ paL r l k ∧ paL r l k ≤ 100000000 * k
  | 0, _ => by simp [paL]
  | k + 1, hk => by
    have ih := paL_b h k (by omega)
    have := paV_b (h (l.getD k default) (by rw [at_lt (by omega)]; exact List.getElem_mem _))
    unfold paL; omega
def O62 : Nat → Sch := fun id => .done
theorem ho62 : Try.f62.body.map (okO O62) = some true := by kernel_rfl
def Cf62 : Nat → List AV → (AV → List AV → Sto → Prop) → Kt → List AV → Sto → Prop := fun f args K Q e s => match f with
  | 55 => ent55 (AV.outs s args) K (mk _) e s
  | _ => False
def Ct62 : CT := { f := Cf62, y := noYld, z := fun d => false }
theorem ctz62 {d : Nat} : CT.z Ct62 d = (false) := id rfl
theorem Ct62_ok : Ct62.ok Try.prog := ok_of_f (fun f args K Q e s h => by
  have h : Cf62 f args K Q e s := h
  unfold Cf62 at h; split at h
  · exact ent55_ok h
  · exact h.elim) (fun _ _ _ _ _ _ _ _ _ h => h)
theorem x62_55 {args : List AV} {KK : AV → List AV → Sto → Prop} {QQ : Kt} {ii : At KK} {jj : At QQ} {ee : List AV} {ss : Sto} : xC Ct62 55 args KK QQ ii jj ee ss = ent55 (AV.outs ss args) KK (mk _) ee ss := id rfl
theorem c62 : callable Try.prog 62 = true := by kernel_rfl
theorem pf62 (l : List (List Int)) (r : Rul) (h : l.length ≤ 1000 ∧ ∀ p ∈ l, VP r p) : PF Try.prog 62 [.sl 1 (l.map pc), .clo (.func 55) [] [.ptr [.sl 1 (r.bases.map ic), .i r.factor, .i r.most] 0]] (fun zz => zz = .ret (.i (paL r l l.length))) := by
  obtain ⟨h1, h2⟩ := h
  have pb := paL_b h2
  have pv := fun i (hi : i < l.length) => h2 (l.getD i default) (by rw [at_lt hi]; exact List.getElem_mem _)
  have p0 : paL r l 0 = 0 := rfl
  have p1 : ∀ k, paL r l (k + 1) = paL r l k + paV r (l.getD k default) := fun k => rfl
  generalize paL r l = A at *
  refine PF_nil (PF_start (O := O62) Ct62_ok hmix ho62 Try.func62 c62 rfl Try.ntmps62 Try.results62 ?_)
  simp (maxSteps := 4000000) +contextual (disch := first | omega | exact qdb_ok (by kernel_rfl) | exact okb_ok (by kernel_rfl)) only [bw1,bw2,bw3,bw4,bw5,bw6,bw7,bc0,bc1,bc2,bc3,bc4,bc5,bc6,bc7,setPs,AV.owns,AV.datF,AV.frz,AV.cpy,ifV,isEqB,nilV,nilX,AV.isNilS,AV.isNoRows,wk,dclo,datOf,binIs,addF,AV.isPtr,idxV,AV.isSl,AV.isSlice,AV.rows,ps,pv,extV,extS,AV.outs,AV.outF,packD,AV.dl,fieldV,fieldS,AV.cells?,AV.upr,AV.menc,AV.one,D.one,Value.oneCell',tagOf,AV.isApp,strV,strS,bolV,bolS,slcV,AV.isSlD,asrtS,AV.dcells,D.cells?,stcV,stcS,leafOk,eqDs,eqD,packA,D.val?,↓reduceIte,reduceCtorEq,Nat.reduceAdd,Nat.reduceSub,Nat.reduceMul,List.reduceReplicate,Nat.reduceLeDiff,Nat.reduceLT,Nat.reduceBEq,Nat.reduceEqDiff,Int.reduceNeg,Int.reduceEq,Int.reduceLE,Int.reduceLT,tfb,ctz62,x62_55,eq55]
  refine loop_s (O := O62) (tb := 0) Ct62_ok hmix (by kernel_rfl) (σ := Nat) (fun i => [(4, .i (A i)), (6, .any), (9, .i i)]) (fun i => i ≤ l.length) (fun i => l.length - i) (fun i => i + 1) 0 (by omega) ?_ ?_
  · simp (maxSteps := 4000000) +contextual (disch := first | omega | exact qdb_ok (by kernel_rfl) | exact okb_ok (by kernel_rfl)) only [bw1,bw2,bw3,bw4,bw5,bw6,bw7,bc0,bc1,bc2,bc3,bc4,bc5,bc6,bc7,setPs,AV.owns,AV.datF,AV.frz,AV.cpy,ifV,isEqB,nilV,nilX,AV.isNilS,AV.isNoRows,wk,dclo,datOf,binIs,addF,AV.isPtr,idxV,AV.isSl,AV.isSlice,AV.rows,ps,pv,extV,extS,AV.outs,AV.outF,packD,AV.dl,fieldV,fieldS,AV.cells?,AV.upr,AV.menc,AV.one,D.one,Value.oneCell',tagOf,AV.isApp,strV,strS,bolV,bolS,slcV,AV.isSlD,asrtS,AV.dcells,D.cells?,stcV,stcS,leafOk,eqDs,eqD,packA,D.val?,↓reduceIte,reduceCtorEq,Nat.reduceAdd,Nat.reduceSub,Nat.reduceMul,List.reduceReplicate,Nat.reduceLeDiff,Nat.reduceLT,Nat.reduceBEq,Nat.reduceEqDiff,Int.reduceNeg,Int.reduceEq,Int.reduceLE,Int.reduceLT,tfb,ctz62,x62_55,eq55,p0]
  intro i hi
  by_cases hlt : i < l.length
  · have hlt' : (i : Int) < l.length := by omega
    have p1i := p1 i
    have pvi := pv i hlt
    have pbi := pb (i + 1) hlt
    have hwr : IntKind.i64.wrap (A i + paV r (l.getD i default)) = A i + paV r (l.getD i default) := wrap_ok (by omega) (by omega)
    simp (maxSteps := 4000000) +contextual (disch := first | omega | exact qdb_ok (by kernel_rfl) | exact okb_ok (by kernel_rfl)) only [bw1,bw2,bw3,bw4,bw5,bw6,bw7,bc0,bc1,bc2,bc3,bc4,bc5,bc6,bc7,setPs,AV.owns,AV.datF,AV.frz,AV.cpy,ifV,isEqB,nilV,nilX,AV.isNilS,AV.isNoRows,wk,dclo,datOf,binIs,addF,AV.isPtr,idxV,AV.isSl,AV.isSlice,AV.rows,ps,pv,extV,extS,AV.outs,AV.outF,packD,AV.dl,fieldV,fieldS,AV.cells?,AV.upr,AV.menc,AV.one,D.one,Value.oneCell',tagOf,AV.isApp,strV,strS,bolV,bolS,slcV,AV.isSlD,asrtS,AV.dcells,D.cells?,stcV,stcS,leafOk,eqDs,eqD,packA,D.val?,↓reduceIte,reduceCtorEq,Nat.reduceAdd,Nat.reduceSub,Nat.reduceMul,List.reduceReplicate,Nat.reduceLeDiff,Nat.reduceLT,Nat.reduceBEq,Nat.reduceEqDiff,Int.reduceNeg,Int.reduceEq,Int.reduceLE,Int.reduceLT,tfb,ctz62,x62_55,eq55,eq_self, hlt', p1i, pvi, hwr]
    and_intros <;> first | omega | rfl
  · have hlt' : ¬ (i : Int) < l.length := by omega
    obtain rfl : i = l.length := by omega
    simp (maxSteps := 4000000) +contextual (disch := first | omega | exact qdb_ok (by kernel_rfl) | exact okb_ok (by kernel_rfl)) only [bw1,bw2,bw3,bw4,bw5,bw6,bw7,bc0,bc1,bc2,bc3,bc4,bc5,bc6,bc7,setPs,AV.owns,AV.datF,AV.frz,AV.cpy,ifV,isEqB,nilV,nilX,AV.isNilS,AV.isNoRows,wk,dclo,datOf,binIs,addF,AV.isPtr,idxV,AV.isSl,AV.isSlice,AV.rows,ps,pv,extV,extS,AV.outs,AV.outF,packD,AV.dl,fieldV,fieldS,AV.cells?,AV.upr,AV.menc,AV.one,D.one,Value.oneCell',tagOf,AV.isApp,strV,strS,bolV,bolS,slcV,AV.isSlD,asrtS,AV.dcells,D.cells?,stcV,stcS,leafOk,eqDs,eqD,packA,D.val?,↓reduceIte,reduceCtorEq,Nat.reduceAdd,Nat.reduceSub,Nat.reduceMul,List.reduceReplicate,Nat.reduceLeDiff,Nat.reduceLT,Nat.reduceBEq,Nat.reduceEqDiff,Int.reduceNeg,Int.reduceEq,Int.reduceLE,Int.reduceLT,tfb,ctz62,x62_55,eq55,eq_self, hlt', Int.lt_irrefl]
def ent62 (o : Option (List D)) (K : AV → List AV → Sto → Prop) (i : At K) (e : List AV) (s : Sto) : Prop := entS (α := (List (List Int)) × (Rul)) (fun aa => [.sl 1 (aa.1.map pc), .clo (.func 55) [] [.ptr [.sl 1 (aa.2.bases.map ic), .i aa.2.factor, .i aa.2.most] 0]]) (fun aa => aa.1.length ≤ 1000 ∧ ∀ p ∈ aa.1, VP aa.2 p) (fun aa => .i (paL aa.2 aa.1 aa.1.length)) o K i e s
theorem ent62_ok {args : List AV} {K : AV → List AV → Sto → Prop} {Q : Kt} {e : List AV} {s : Sto} (h : ent62 (AV.outs s args) K (mk _) e s) : pcall Try.prog 62 args K Q e s := entS_ok (fun aa h => pf62 aa.1 aa.2 h) h
theorem eq62 {l : List (List Int)} {r : Rul} {KK : AV → List AV → Sto → Prop} {ii : At KK} {ee : List AV} {ss : Sto} : ent62 (some [.sl 1 (l.map pc), .clo (.func 55) [] [.ptr [.sl 1 (r.bases.map ic), .i r.factor, .i r.most] 0]]) KK ii ee ss = ((l.length ≤ 1000 ∧ ∀ p ∈ l, VP r p) ∧ (.i (paL r l l.length) : D).flat = true ∧ KK (.d (.i (paL r l l.length))) ee ss) := by
  unfold ent62; rw [entS_iff (l, r) (by intro b h; simpa [Prod.ext_iff, and_assoc, Int.ofNat_inj, ints_inj, cals_inj, pcs_inj, skas_inj, scos_inj, ska_inj, rul_inj, sco_inj, cal_inj, ods_inj, od_inj] using h)] <;> simp
def q38_0 : Sch := .alt (.one 11 (.one 12 (.one 13 (.one 14 (.done))))) (.one 13 (.one 11 (.one 12 (.one 14 (.done)))))
def q38_1 : Sch := .alt (.one 7 q38_0) (.one 13 (.one 7 (.one 11 (.one 12 (.one 14 (.done))))))
def q38_2 : Sch := .alt (.one 7 (.one 10 (.one 11 (.one 12 (.one 14 (.done)))))) (.one 10 (.one 7 (.one 11 (.one 12 (.one 14 (.done))))))
def q38_3 : Sch := .alt (.one 7 (.alt (.one 10 q38_0) (.one 13 (.one 10 (.one 11 (.one 12 (.one 14 (.done)))))))) (.alt (.one 10 q38_1) (.one 13 q38_2))
def q38_4 : Sch := .alt (.one 5 q38_1) (.one 13 (.one 5 (.one 7 (.one 11 (.one 12 (.one 14 (.done)))))))
def q38_5 : Sch := .one 5 q38_2
def q38_6 : Sch := .alt (.one 3 q38_1) (.one 13 (.one 3 (.one 7 (.one 11 (.one 12 (.one 14 (.done)))))))
def q38_7 : Sch := .alt (.one 3 q38_2) (.one 10 (.one 3 (.one 7 (.one 11 (.one 12 (.one 14 (.done)))))))
def q38_8 : Sch := .alt (.one 3 q38_3) (.alt (.one 10 q38_6) (.one 13 q38_7))
def q38_9 : Sch := .alt (.one 3 (.one 5 (.one 7 (.one 11 (.one 12 (.one 14 (.done))))))) (.one 5 (.one 3 (.one 7 (.one 11 (.one 12 (.one 14 (.done)))))))
def q38_10 : Sch := .alt (.one 3 q38_4) (.alt (.one 5 q38_6) (.one 13 q38_9))
def q38_11 : Sch := .alt (.one 3 q38_5) (.alt (.one 5 q38_7) (.one 10 q38_9))
def q38_12 : Sch := .one 2 (.one 3 (.one 7 (.one 11 (.one 12 (.one 14 (.done))))))
def q38_13 : Sch := .alt (.one 2 q38_6) (.one 13 q38_12)
def q38_14 : Sch := .alt (.one 2 q38_7) (.one 10 q38_12)
def q38_15 : Sch := .alt (.one 2 q38_8) (.alt (.one 10 q38_13) (.one 13 q38_14))
def q38_16 : Sch := .alt (.one 2 q38_9) (.one 5 q38_12)
def q38_17 : Sch := .alt (.one 2 q38_10) (.alt (.one 5 q38_13) (.one 13 q38_16))
def q38_18 : Sch := .alt (.one 2 q38_11) (.alt (.one 5 q38_14) (.one 10 q38_16))
def q38_19 : Sch := .alt (.one 2 (.alt (.one 3 (.alt (.one 5 q38_3) (.alt (.one 10 q38_4) (.one 13 q38_5)))) (.alt (.one 5 q38_8) (.alt (.one 10 q38_10) (.one 13 q38_11))))) (.alt (.one 5 q38_15) (.alt (.one 10 q38_17) (.one 13 q38_18)))
def q38_20 : Sch := .one 1 q38_12
def q38_21 : Sch := .alt (.one 1 q38_13) (.one 13 q38_20)
def q38_22 : Sch := .one 1 q38_14
def q38_23 : Sch := .alt (.one 1 q38_15) (.alt (.one 10 q38_21) (.one 13 q38_22))
def q38_24 : Sch := .one 1 q38_16
def q38_25 : Sch := .alt (.one 1 q38_17) (.alt (.one 5 q38_21) (.one 13 q38_24))
def q38_26 : Sch := .one 1 q38_18
def q38_27 : Sch := .alt (.one 0 q38_13) (.one 13 (.one 0 q38_12))
def q38_28 : Sch := .alt (.one 0 q38_15) (.alt (.one 10 q38_27) (.one 13 (.one 0 q38_14)))
def q38_29 : Sch := .alt (.one 0 q38_17) (.alt (.one 5 q38_27) (.one 13 (.one 0 q38_16)))
def q38_30 : Sch := .alt (.one 0 q38_21) (.alt (.one 1 q38_27) (.one 13 (.one 0 q38_20)))
def O38 : Nat → Sch := fun id => if id = 3 then .one 4 (.one 6 (.one 8 (.one 9 (.alt (.one 0 (.alt (.one 1 q38_19) (.alt (.one 5 q38_23) (.alt (.one 10 q38_25) (.one 13 q38_26))))) (.alt (.one 1 (.alt (.one 0 q38_19) (.alt (.one 5 q38_28) (.alt (.one 10 q38_29) (.one 13 (.one 0 q38_18)))))) (.alt (.one 5 (.alt (.one 0 q38_23) (.alt (.one 1 q38_28) (.alt (.one 10 q38_30) (.one 13 (.one 0 q38_22)))))) (.alt (.one 10 (.alt (.one 0 q38_25) (.alt (.one 1 q38_29) (.alt (.one 5 q38_30) (.one 13 (.one 0 q38_24)))))) (.one 13 (.one 0 q38_26))))))))) else .done
theorem O38_3 : O38 3 = .one 4 (.one 6 (.one 8 (.one 9 (.alt (.one 0 (.alt (.one 1 q38_19) (.alt (.one 5 q38_23) (.alt (.one 10 q38_25) (.one 13 q38_26))))) (.alt (.one 1 (.alt (.one 0 q38_19) (.alt (.one 5 q38_28) (.alt (.one 10 q38_29) (.one 13 (.one 0 q38_18)))))) (.alt (.one 5 (.alt (.one 0 q38_23) (.alt (.one 1 q38_28) (.alt (.one 10 q38_30) (.one 13 (.one 0 q38_22)))))) (.alt (.one 10 (.alt (.one 0 q38_25) (.alt (.one 1 q38_29) (.alt (.one 5 q38_30) (.one 13 (.one 0 q38_24)))))) (.one 13 (.one 0 q38_26))))))))) := rfl
theorem ho38 : Try.f38.body.map (okO O38) = some true := by kernel_rfl
def Cf38 : Nat → List AV → (AV → List AV → Sto → Prop) → Kt → List AV → Sto → Prop := fun f args K Q e s => match f with
  | 40 => ent40 args K e s
  | 58 => ent58 args K e s
  | 60 => ent60 args K e s
  | 62 => ent62 (AV.outs s args) K (mk _) e s
  | 63 => ent63 args K e s
  | _ => False
def Ct38 : CT := { f := Cf38, y := noYld, z := fun d => false }
theorem ctz38 {d : Nat} : CT.z Ct38 d = (false) := id rfl
theorem Ct38_ok : Ct38.ok Try.prog := ok_of_f (fun f args K Q e s h => by
  have h : Cf38 f args K Q e s := h
  unfold Cf38 at h; split at h
  · exact ent40_ok h
  · exact ent58_ok h
  · exact ent60_ok h
  · exact ent62_ok h
  · exact ent63_ok h
  · exact h.elim) (fun _ _ _ _ _ _ _ _ _ h => h)
theorem x38_40 {r : Rul} {s : Ska} {KK : AV → List AV → Sto → Prop} {QQ : Kt} {ii : At KK} {jj : At QQ} {ee : List AV} {ss : Sto} : xC Ct38 40 [.d (r.d), .d (.agg s.c)] KK QQ ii jj ee ss = ((VS r s) ∧ KK (.d (.sl 1 ((valsR r s s.calls.length).map ic))) ee ss) := eq40
theorem x38_58 {l : List Int} {KK : AV → List AV → Sto → Prop} {QQ : Kt} {ii : At KK} {jj : At QQ} {ee : List AV} {ss : Sto} : xC Ct38 58 [.d (.sl 1 (l.map ic)), .d (.v (.func (.func 59) #[] #[]))] KK QQ ii jj ee ss = ((Bd l) ∧ KK (.d (.i (csum l l.length))) ee ss) := eq58
theorem x38_58_m1 {l : List Int} {g1 el1 : Nat} {KK : AV → List AV → Sto → Prop} {QQ : Kt} {ii : At KK} {jj : At QQ} {ee : List AV} {ss : Sto} : xC Ct38 58 [.own g1 el1 1 (l.map ic), .d (.v (.func (.func 59) #[] #[]))] KK QQ ii jj ee ss = ((Bd l) ∧ (.i (csum l l.length) : D).flat = true ∧ KK (.d (.i (csum l l.length))) ee ss) := eqo58
theorem x38_60 {l : List Cal} {KK : AV → List AV → Sto → Prop} {QQ : Kt} {ii : At KK} {jj : At QQ} {ee : List AV} {ss : Sto} : xC Ct38 60 [.d (.sl 6 (l.map Cal.c)), .d (.v (.func (.func 61) #[] #[]))] KK QQ ii jj ee ss = ((l.length ≤ 1000) ∧ KK (.d (.i (flL l l.length : Nat))) ee ss) := eq60
theorem x38_60_m1 {l : List Cal} {g1 el1 : Nat} {KK : AV → List AV → Sto → Prop} {QQ : Kt} {ii : At KK} {jj : At QQ} {ee : List AV} {ss : Sto} : xC Ct38 60 [.own g1 el1 6 (l.map Cal.c), .d (.v (.func (.func 61) #[] #[]))] KK QQ ii jj ee ss = ((l.length ≤ 1000) ∧ (.i (flL l l.length : Nat) : D).flat = true ∧ KK (.d (.i (flL l l.length : Nat))) ee ss) := eqo60
theorem x38_62 {args : List AV} {KK : AV → List AV → Sto → Prop} {QQ : Kt} {ii : At KK} {jj : At QQ} {ee : List AV} {ss : Sto} : xC Ct38 62 args KK QQ ii jj ee ss = ent62 (AV.outs ss args) KK (mk _) ee ss := id rfl
theorem x38_63 {falls : Nat} {sec : Int} {KK : AV → List AV → Sto → Prop} {QQ : Kt} {ii : At KK} {jj : At QQ} {ee : List AV} {ss : Sto} : xC Ct38 63 [.d (.i (falls : Int)), .d (.i sec)] KK QQ ii jj ee ss = ((falls ≤ 1000 ∧ 0 ≤ sec ∧ sec ≤ 100000) ∧ KK (.d (.i (off falls sec))) ee ss) := eq63
theorem c38 : callable Try.prog 38 = true := by kernel_rfl
theorem pf38 (r : Rul) (s : Ska) (h : VK r s) : PF Try.prog 38 [r.d, .agg s.c] (fun zz => zz = .ret (.agg (progR r s).c)) := by
  obtain ⟨hvs, ⟨n, hv⟩, hpl, hpp, hov⟩ := h
  have hcl := hvs.len
  have hvl := valsR_len (r := r) (s := s) (k := s.calls.length)
  have heb : ∀ k, k ≤ s.calls.length → -1000000000 * (k : Int) ≤ elR r s k ∧ elR r s k ≤ 1000000000 * k := fun k => by
    induction k with
    | zero => intro _; unfold elR; omega
    | succ k ih =>
      intro hk
      have := ih (by omega)
      have h2 := valR_b hv (i := k) (by omega)
      unfold elR; omega
  have hbv : Bd (valsR r s s.calls.length) := ⟨by omega, fun x hx => by
    obtain ⟨i, hi, rfl⟩ := List.mem_map.1 hx
    have := valR_b hv (i := i) (List.mem_range.1 hi)
    omega⟩
  have hcs := csum_vals (r := r) (s := s) (n := s.calls.length) s.calls.length (Nat.le_refl _)
  have hfl := flR_L (s := s) s.calls.length
  have hpa := paR_L (r := r) (s := s) s.parts.length
  have hfb := flL_b (l := s.calls) s.calls.length
  have hcl3 : s.calls.length ≤ 1000 := by omega
  have hfb3 : flL s.calls s.calls.length ≤ 1000 := by omega
  have hov3 : s.over ≤ 100000 := by omega
  have hpl3 : s.parts.length ≤ 1000 := by omega
  have hpb := paL_b hpp s.parts.length (Nat.le_refl _)
  have heb1 := heb s.calls.length (Nat.le_refl _)
  have hofb := off_b (f := flL s.calls s.calls.length) hov.1 (by omega) (by omega)
  unfold progR
  rw [hfl, hpa]
  generalize hE : elR r s s.calls.length = E at *
  generalize hF : flL s.calls s.calls.length = F at *
  generalize hA : paL r s.parts s.parts.length = A at *
  refine PF_nil (PF_start (O := O38) Ct38_ok hmix ho38 Try.func38 c38 rfl Try.ntmps38 Try.results38 ?_)
  simp (maxSteps := 4000000) +contextual (disch := first | omega | exact qdb_ok (by kernel_rfl) | exact okb_ok (by kernel_rfl)) only [bw1,bw2,bw3,bw4,bw5,bw6,bw7,bc0,bc1,bc2,bc3,bc4,bc5,bc6,bc7,setPs,AV.owns,AV.datF,AV.frz,AV.cpy,ifV,isEqB,nilV,nilX,AV.isNilS,AV.isNoRows,wk,dclo,datOf,binIs,addF,AV.isPtr,idxV,AV.isSl,AV.isSlice,AV.rows,ps,pv,extV,extS,AV.outs,AV.outF,packD,AV.dl,fieldV,fieldS,AV.cells?,AV.upr,AV.menc,AV.one,D.one,Value.oneCell',tagOf,AV.isApp,strV,strS,bolV,bolS,slcV,AV.isSlD,asrtS,AV.dcells,D.cells?,stcV,stcS,leafOk,eqDs,eqD,packA,D.val?,↓reduceIte,reduceCtorEq,Nat.reduceAdd,Nat.reduceSub,Nat.reduceMul,List.reduceReplicate,Nat.reduceLeDiff,Nat.reduceLT,Nat.reduceBEq,Nat.reduceEqDiff,Int.reduceNeg,Int.reduceEq,Int.reduceLE,Int.reduceLT,tfb,ctz38,q38_0,q38_1,q38_2,q38_3,q38_4,q38_5,q38_6,q38_7,q38_8,q38_9,q38_10,q38_11,q38_12,q38_13,q38_14,q38_15,q38_16,q38_17,q38_18,q38_19,q38_20,q38_21,q38_22,q38_23,q38_24,q38_25,q38_26,q38_27,q38_28,q38_29,q38_30,O38_3,x38_40,x38_58,x38_58_m1,x38_60,x38_60_m1,x38_62,eq62,x38_63,hcl3, hfb3, hov3, hpl3, hov.1, hvs, hbv, hvl, hcs, hF, hA]
  exact ⟨hpp, rfl⟩
def ent38 (args : List AV) (K : AV → List AV → Sto → Prop) (e : List AV) (s : Sto) : Prop := ent (α := (Rul) × (Ska)) (fun aa => [aa.1.d, .agg aa.2.c]) (fun aa => VK aa.1 aa.2) (fun aa => .agg (progR aa.1 aa.2).c) args K e s
theorem ent38_ok {args : List AV} {K : AV → List AV → Sto → Prop} {Q : Kt} {e : List AV} {s : Sto} (h : ent38 args K e s) : pcall Try.prog 38 args K Q e s := ent_ok (fun aa h => pf38 aa.1 aa.2 h) h
theorem eq38 {r : Rul} {s : Ska} {KK : AV → List AV → Sto → Prop} {ee : List AV} {ss : Sto} : ent38 [.d (r.d), .d (.agg s.c)] KK ee ss = ((VK r s) ∧ KK (.d (.agg (progR r s).c)) ee ss) := by
  unfold ent38; rw [ent_iff (r, s) (by intro b h; simpa [Prod.ext_iff, and_assoc, Int.ofNat_inj, ints_inj, cals_inj, pcs_inj, skas_inj, scos_inj, ska_inj, rul_inj, sco_inj, cal_inj, ods_inj, od_inj] using h) rfl]; simp
end Go.Proofs.Ytapglfcaghlpfaa
