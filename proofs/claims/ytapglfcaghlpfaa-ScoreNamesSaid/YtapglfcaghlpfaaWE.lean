/- A part of the proof that the last text ends: what functions of the program do, told by plain data. -/
import Derived.Test.YtapglfcaghlpfaaWD
import Derived.Test.YtapglfcaghlpfaaEc
set_option linter.unusedVariables false
set_option linter.unusedSimpArgs false
namespace Go.Proofs.Ytapglfcaghlpfaa.N0
open Go Go.E Go.Maps
set_option maxRecDepth 100000
set_option maxHeartbeats 16000000
/-! ### Swing and Values, whose results are the caller's own -/
def O45 : Nat → Sch := fun id => if id = 5 then .one 0 (.one 2 (.one 3 (.alt (.one 1 (.one 4 (.one 5 (.one 6 (.one 7 (.one 8 (.done))))))) (.one 4 (.one 1 (.one 5 (.one 6 (.one 7 (.one 8 (.done)))))))))) else if id = 6 then .one 0 (.one 2 (.one 3 (.alt (.one 1 (.one 4 (.one 5 (.one 6 (.one 7 (.one 8 (.done))))))) (.one 4 (.one 1 (.one 5 (.one 6 (.one 7 (.one 8 (.done)))))))))) else if id = 17 then .one 0 (.one 1 (.one 2 (.one 3 (.one 4 (.one 5 (.one 6 (.one 7 (.one 8 (.done))))))))) else if id = 19 then .one 0 (.one 1 (.one 2 (.one 3 (.one 4 (.one 5 (.one 6 (.one 7 (.one 8 (.done))))))))) else .done
theorem O45_5 : O45 5 = .one 0 (.one 2 (.one 3 (.alt (.one 1 (.one 4 (.one 5 (.one 6 (.one 7 (.one 8 (.done))))))) (.one 4 (.one 1 (.one 5 (.one 6 (.one 7 (.one 8 (.done)))))))))) := rfl
theorem O45_6 : O45 6 = .one 0 (.one 2 (.one 3 (.alt (.one 1 (.one 4 (.one 5 (.one 6 (.one 7 (.one 8 (.done))))))) (.one 4 (.one 1 (.one 5 (.one 6 (.one 7 (.one 8 (.done)))))))))) := rfl
theorem O45_17 : O45 17 = .one 0 (.one 1 (.one 2 (.one 3 (.one 4 (.one 5 (.one 6 (.one 7 (.one 8 (.done))))))))) := rfl
theorem O45_19 : O45 19 = .one 0 (.one 1 (.one 2 (.one 3 (.one 4 (.one 5 (.one 6 (.one 7 (.one 8 (.done))))))))) := rfl
theorem ho45 : Try.f45.body.map (okO O45) = some true := by kernel_rfl
def Cf45 : Nat → List AV → (AV → List AV → Sto → Prop) → Kt → List AV → Sto → Prop := fun f args K Q e s => match f with
  | 38 => ent38 args K e s
  | 49 => ent49 args K e s
  | 70 => ent70 args K e s
  | _ => False
def Ct45 : CT := { f := Cf45, y := noYld, z := fun d => false }
theorem ctz45 {d : Nat} : CT.z Ct45 d = (false) := id rfl
theorem Ct45_ok : Ct45.ok Try.prog := ok_of_f (fun f args K Q e s h => by
  have h : Cf45 f args K Q e s := h
  unfold Cf45 at h; split at h
  · exact ent38_ok h
  · exact ent49_ok h
  · exact ent70_ok h
  · exact h.elim) (fun _ _ _ _ _ _ _ _ _ h => h)
theorem x45_38 {r : Rul} {s : Ska} {KK : AV → List AV → Sto → Prop} {QQ : Kt} {ii : At KK} {jj : At QQ} {ee : List AV} {ss : Sto} : xC Ct45 38 [.d (r.d), .d (.agg s.c)] KK QQ ii jj ee ss = ((VK r s) ∧ KK (.d (.agg (progR r s).c)) ee ss) := eq38
theorem x45_49 {a : Sco} {b : Sco} {KK : AV → List AV → Sto → Prop} {QQ : Kt} {ii : At KK} {jj : At QQ} {ee : List AV} {ss : Sto} : xC Ct45 49 [.d (.agg a.c), .d (.agg b.c)] KK QQ ii jj ee ss = (KK (.d (.b (better a b))) ee ss) := eq49
theorem x45_70 {s : Ska} {j : Nat} {g : Int} {q : Int} {KK : AV → List AV → Sto → Prop} {QQ : Kt} {ii : At KK} {jj : At QQ} {ee : List AV} {ss : Sto} : xC Ct45 70 [.d (.agg s.c), .d (.i (j : Int)), .d (.i g), .d (.i q)] KK QQ ii jj ee ss = (((s.calls.length ≤ 1000 ∧ s.parts.length ≤ 1000) ∧ (∀ c ∈ s.calls, j < c.marks.length ∧ c.marks.length ≤ 1000) ∧ ∀ p ∈ s.parts, j < p.length ∧ p.length ≤ 1000) ∧ KK (.d (.agg (givR s j g q).c)) ee ss) := eq70
theorem c45 : callable Try.prog 45 = true := by kernel_rfl
theorem pf45 (r : Rul) (l : List Ska) (j : Nat) (h : l.length ≤ 1000 ∧ ∀ s ∈ l, VG r j s) : PFo Try.prog 45 63 2 [r.d, .sl 3 (l.map Ska.c), .i (j : Int)] (fun zz => zz = ((swR r l j).map Spn.c)) := by
  obtain ⟨hl1, hvg⟩ := h
  have w0 : ∀ g q, wkN r l j g q 0 = [] := fun g q => rfl
  have w1 : ∀ g q k, k < l.length → wkN r l j g q (k + 1) = wkN r l j g q k ++ [progR r (givR (l.getD k default) j g q)] := fun g q k h => wkN_succ h
  have wl : ∀ g q k, k ≤ l.length → (wkN r l j g q k).length = k := fun g q k h => wkN_len h
  refine PFo_start (O := O45) Ct45_ok hmix ho45 Try.func45 c45 rfl Try.ntmps45 Try.results45 ?_
  simp (maxSteps := 4000000) +contextual (disch := first | omega | exact qdb_ok (by kernel_rfl) | exact okb_ok (by kernel_rfl)) only [bw1,bw2,bw3,bw4,bw5,bw6,bw7,bc0,bc1,bc2,bc3,bc4,bc5,bc6,bc7,setPs,AV.owns,AV.datF,AV.frz,AV.cpy,ifV,isEqB,nilV,nilX,AV.isNilS,AV.isNoRows,wk,dclo,datOf,binIs,addF,AV.isPtr,idxV,AV.isSl,AV.isSlice,AV.rows,ps,pv,extV,extS,AV.outs,AV.outF,packD,AV.dl,fieldV,fieldS,AV.cells?,AV.upr,AV.menc,AV.one,D.one,Value.oneCell',tagOf,AV.isApp,strV,strS,bolV,bolS,slcV,AV.isSlD,asrtS,AV.dcells,D.cells?,stcV,stcS,leafOk,eqDs,eqD,packA,D.val?,↓reduceIte,reduceCtorEq,Nat.reduceAdd,Nat.reduceSub,Nat.reduceMul,List.reduceReplicate,Nat.reduceLeDiff,Nat.reduceLT,Nat.reduceBEq,Nat.reduceEqDiff,Int.reduceNeg,Int.reduceEq,Int.reduceLE,Int.reduceLT,tfb,p_bnsl,nl_nil,nl_sl,nl_own,nlR_e,nlR_n,ro_n,ro_r,qd_Ro,ox_1,or_own,or_nil,ctz45,O45_5,O45_6,O45_17,O45_19,x45_38,x45_49,x45_70]
  refine seed (m1 := mk _) (m2 := mk _) 7 28 40 4 (by decide) rfl rfl (by simp [Sto.mens, AV.mens, AV.men]) rfl ?_
  simp (maxSteps := 4000000) +contextual (disch := first | omega | exact qdb_ok (by kernel_rfl) | exact okb_ok (by kernel_rfl)) only [bw1,bw2,bw3,bw4,bw5,bw6,bw7,bc0,bc1,bc2,bc3,bc4,bc5,bc6,bc7,setPs,AV.owns,AV.datF,AV.frz,AV.cpy,ifV,isEqB,nilV,nilX,AV.isNilS,AV.isNoRows,wk,dclo,datOf,binIs,addF,AV.isPtr,idxV,AV.isSl,AV.isSlice,AV.rows,ps,pv,extV,extS,AV.outs,AV.outF,packD,AV.dl,fieldV,fieldS,AV.cells?,AV.upr,AV.menc,AV.one,D.one,Value.oneCell',tagOf,AV.isApp,strV,strS,bolV,bolS,slcV,AV.isSlD,asrtS,AV.dcells,D.cells?,stcV,stcS,leafOk,eqDs,eqD,packA,D.val?,↓reduceIte,reduceCtorEq,Nat.reduceAdd,Nat.reduceSub,Nat.reduceMul,List.reduceReplicate,Nat.reduceLeDiff,Nat.reduceLT,Nat.reduceBEq,Nat.reduceEqDiff,Int.reduceNeg,Int.reduceEq,Int.reduceLE,Int.reduceLT,tfb,p_bnsl,nl_nil,nl_sl,nl_own,nlR_e,nlR_n,ro_n,ro_r,qd_Ro,ox_1,or_own,or_nil,ctz45,O45_5,O45_6,O45_17,O45_19,x45_38,x45_49,x45_70,eq_self]
  refine seed (m1 := mk _) (m2 := mk _) 8 36 40 4 (by decide) rfl rfl (by simp [Sto.mens, AV.mens, AV.men]) rfl ?_
  simp (maxSteps := 4000000) +contextual (disch := first | omega | exact qdb_ok (by kernel_rfl) | exact okb_ok (by kernel_rfl)) only [bw1,bw2,bw3,bw4,bw5,bw6,bw7,bc0,bc1,bc2,bc3,bc4,bc5,bc6,bc7,setPs,AV.owns,AV.datF,AV.frz,AV.cpy,ifV,isEqB,nilV,nilX,AV.isNilS,AV.isNoRows,wk,dclo,datOf,binIs,addF,AV.isPtr,idxV,AV.isSl,AV.isSlice,AV.rows,ps,pv,extV,extS,AV.outs,AV.outF,packD,AV.dl,fieldV,fieldS,AV.cells?,AV.upr,AV.menc,AV.one,D.one,Value.oneCell',tagOf,AV.isApp,strV,strS,bolV,bolS,slcV,AV.isSlD,asrtS,AV.dcells,D.cells?,stcV,stcS,leafOk,eqDs,eqD,packA,D.val?,↓reduceIte,reduceCtorEq,Nat.reduceAdd,Nat.reduceSub,Nat.reduceMul,List.reduceReplicate,Nat.reduceLeDiff,Nat.reduceLT,Nat.reduceBEq,Nat.reduceEqDiff,Int.reduceNeg,Int.reduceEq,Int.reduceLE,Int.reduceLT,tfb,p_bnsl,nl_nil,nl_sl,nl_own,nlR_e,nlR_n,ro_n,ro_r,qd_Ro,ox_1,or_own,or_nil,ctz45,O45_5,O45_6,O45_17,O45_19,x45_38,x45_49,x45_70,eq_self]
  refine loop_u (O := O45) (tb := 0) Ct45_ok hmix (by kernel_rfl) (σ := Nat) (fun k => [(7, .own 28 40 4 ((wkN r l j (-5) 0 k).map Sco.c)), (8, .own 36 40 4 ((wkN r l j 5 40 k).map Sco.c)), (10, .any), (16, .i k)]) (fun k => []) (fun k => k ≤ l.length) (fun k => l.length - k) (fun k => k + 1) 0 (by omega) ?_ ?_
  · simp (maxSteps := 4000000) +contextual (disch := first | omega | exact qdb_ok (by kernel_rfl) | exact okb_ok (by kernel_rfl)) only [bw1,bw2,bw3,bw4,bw5,bw6,bw7,bc0,bc1,bc2,bc3,bc4,bc5,bc6,bc7,setPs,AV.owns,AV.datF,AV.frz,AV.cpy,ifV,isEqB,nilV,nilX,AV.isNilS,AV.isNoRows,wk,dclo,datOf,binIs,addF,AV.isPtr,idxV,AV.isSl,AV.isSlice,AV.rows,ps,pv,extV,extS,AV.outs,AV.outF,packD,AV.dl,fieldV,fieldS,AV.cells?,AV.upr,AV.menc,AV.one,D.one,Value.oneCell',tagOf,AV.isApp,strV,strS,bolV,bolS,slcV,AV.isSlD,asrtS,AV.dcells,D.cells?,stcV,stcS,leafOk,eqDs,eqD,packA,D.val?,↓reduceIte,reduceCtorEq,Nat.reduceAdd,Nat.reduceSub,Nat.reduceMul,List.reduceReplicate,Nat.reduceLeDiff,Nat.reduceLT,Nat.reduceBEq,Nat.reduceEqDiff,Int.reduceNeg,Int.reduceEq,Int.reduceLE,Int.reduceLT,tfb,p_bnsl,nl_nil,nl_sl,nl_own,nlR_e,nlR_n,ro_n,ro_r,qd_Ro,ox_1,or_own,or_nil,ctz45,O45_5,O45_6,O45_17,O45_19,x45_38,x45_49,x45_70,eq_self, w0]
  intro k hk
  by_cases hlt : k < l.length
  · have hlt' : (k : Int) < l.length := by omega
    have w1a := w1 (-5) 0 k hlt
    have w1b := w1 5 40 k hlt
    have wla := wl (-5) 0 k hk
    have wlb := wl 5 40 k hk
    have hv := hvg (l.getD k default) (by rw [at_lt hlt]; exact List.getElem_mem _)
    have hka := vk_set hv.vk (j := j) (g := -5) (q := 0) (by omega) (by omega)
    have hkb := vk_set hv.vk (j := j) (g := 5) (q := 40) (by omega) (by omega)
    have hc1 := hv.vk.vs.len
    have hc2 := hv.vk.parts
    have hcl : (l.getD k default).calls.length ≤ 1000 := by omega
    have hpl : (l.getD k default).parts.length ≤ 1000 := by omega
    have hcc := hv.call
    have hpp := hv.part
    simp (maxSteps := 4000000) +contextual (disch := first | omega | exact qdb_ok (by kernel_rfl) | exact okb_ok (by kernel_rfl)) only [bw1,bw2,bw3,bw4,bw5,bw6,bw7,bc0,bc1,bc2,bc3,bc4,bc5,bc6,bc7,setPs,AV.owns,AV.datF,AV.frz,AV.cpy,ifV,isEqB,nilV,nilX,AV.isNilS,AV.isNoRows,wk,dclo,datOf,binIs,addF,AV.isPtr,idxV,AV.isSl,AV.isSlice,AV.rows,ps,pv,extV,extS,AV.outs,AV.outF,packD,AV.dl,fieldV,fieldS,AV.cells?,AV.upr,AV.menc,AV.one,D.one,Value.oneCell',tagOf,AV.isApp,strV,strS,bolV,bolS,slcV,AV.isSlD,asrtS,AV.dcells,D.cells?,stcV,stcS,leafOk,eqDs,eqD,packA,D.val?,↓reduceIte,reduceCtorEq,Nat.reduceAdd,Nat.reduceSub,Nat.reduceMul,List.reduceReplicate,Nat.reduceLeDiff,Nat.reduceLT,Nat.reduceBEq,Nat.reduceEqDiff,Int.reduceNeg,Int.reduceEq,Int.reduceLE,Int.reduceLT,tfb,p_bnsl,nl_nil,nl_sl,nl_own,nlR_e,nlR_n,ro_n,ro_r,qd_Ro,ox_1,or_own,or_nil,ctz45,O45_5,O45_6,O45_17,O45_19,x45_38,x45_49,x45_70,eq_self, hlt', w1a, w1b, wla, wlb, hka, hkb, hcl, hpl, List.length_map]
    refine ⟨by omega, ⟨hcc, hpp⟩, by omega, by omega, ⟨hcc, hpp⟩, by omega, by omega, by omega, ?_, ?_⟩ <;> (rw [List.map_append]; rfl)
  have hlt' : ¬ (k : Int) < l.length := by omega
  obtain rfl : k = l.length := by omega
  have hfin : swR r l j = bsN (wkN r l j (-5) 0 l.length) (wkN r l j 5 40 l.length) l.length l.length := by
    rw [bsN_all]; unfold swR wkN; rw [List.take_length]
  have hWl := wl (-5) 0 l.length (Nat.le_refl _)
  have hBl := wl 5 40 l.length (Nat.le_refl _)
  rw [hfin]
  clear hfin w0 w1 wl hlt hlt' hk hvg
  generalize wkN r l j (-5) 0 l.length = W at *
  generalize wkN r l j 5 40 l.length = B at *
  have hrep : List.replicate l.length [D.v (Value.int .i64 0), D.v (Value.int .i64 0)] = (List.replicate l.length (⟨0, 0⟩ : Spn)).map Spn.c := by rw [List.map_replicate]
  simp (maxSteps := 4000000) +contextual (disch := first | omega | exact qdb_ok (by kernel_rfl) | exact okb_ok (by kernel_rfl)) only [bw1,bw2,bw3,bw4,bw5,bw6,bw7,bc0,bc1,bc2,bc3,bc4,bc5,bc6,bc7,setPs,AV.owns,AV.datF,AV.frz,AV.cpy,ifV,isEqB,nilV,nilX,AV.isNilS,AV.isNoRows,wk,dclo,datOf,binIs,addF,AV.isPtr,idxV,AV.isSl,AV.isSlice,AV.rows,ps,pv,extV,extS,AV.outs,AV.outF,packD,AV.dl,fieldV,fieldS,AV.cells?,AV.upr,AV.menc,AV.one,D.one,Value.oneCell',tagOf,AV.isApp,strV,strS,bolV,bolS,slcV,AV.isSlD,asrtS,AV.dcells,D.cells?,stcV,stcS,leafOk,eqDs,eqD,packA,D.val?,↓reduceIte,reduceCtorEq,Nat.reduceAdd,Nat.reduceSub,Nat.reduceMul,List.reduceReplicate,Nat.reduceLeDiff,Nat.reduceLT,Nat.reduceBEq,Nat.reduceEqDiff,Int.reduceNeg,Int.reduceEq,Int.reduceLE,Int.reduceLT,tfb,p_bnsl,nl_nil,nl_sl,nl_own,nlR_e,nlR_n,ro_n,ro_r,qd_Ro,ox_1,or_own,or_nil,ctz45,O45_5,O45_6,O45_17,O45_19,x45_38,x45_49,x45_70,eq_self, Int.lt_irrefl, hrep]
  refine ⟨by omega, by omega, by omega, ?_⟩
  refine loop_u (O := O45) (tb := 0) Ct45_ok hmix (by kernel_rfl) (σ := Nat) (fun i => [(11, .own 40 63 2 ((bsN W B l.length i).map Spn.c)), (39, .any), (12, .any), (13, .any), (42, .i i)]) (fun k => []) (fun i => i ≤ l.length) (fun i => l.length - i) (fun i => i + 1) 0 (by omega) ?_ ?_
  · simp (maxSteps := 4000000) +contextual (disch := first | omega | exact qdb_ok (by kernel_rfl) | exact okb_ok (by kernel_rfl)) only [bw1,bw2,bw3,bw4,bw5,bw6,bw7,bc0,bc1,bc2,bc3,bc4,bc5,bc6,bc7,setPs,AV.owns,AV.datF,AV.frz,AV.cpy,ifV,isEqB,nilV,nilX,AV.isNilS,AV.isNoRows,wk,dclo,datOf,binIs,addF,AV.isPtr,idxV,AV.isSl,AV.isSlice,AV.rows,ps,pv,extV,extS,AV.outs,AV.outF,packD,AV.dl,fieldV,fieldS,AV.cells?,AV.upr,AV.menc,AV.one,D.one,Value.oneCell',tagOf,AV.isApp,strV,strS,bolV,bolS,slcV,AV.isSlD,asrtS,AV.dcells,D.cells?,stcV,stcS,leafOk,eqDs,eqD,packA,D.val?,↓reduceIte,reduceCtorEq,Nat.reduceAdd,Nat.reduceSub,Nat.reduceMul,List.reduceReplicate,Nat.reduceLeDiff,Nat.reduceLT,Nat.reduceBEq,Nat.reduceEqDiff,Int.reduceNeg,Int.reduceEq,Int.reduceLE,Int.reduceLT,tfb,p_bnsl,nl_nil,nl_sl,nl_own,nlR_e,nlR_n,ro_n,ro_r,qd_Ro,ox_1,or_own,or_nil,ctz45,O45_5,O45_6,O45_17,O45_19,x45_38,x45_49,x45_70,eq_self, bsN]
  intro i hi
  have hbl := bsN_len (W := W) (B := B) (n := l.length) i
  by_cases hit : i < l.length
  case neg =>
    have hit' : ¬ (i : Int) < l.length := by omega
    obtain rfl : i = l.length := by omega
    simp (maxSteps := 4000000) +contextual (disch := first | omega | exact qdb_ok (by kernel_rfl) | exact okb_ok (by kernel_rfl)) only [bw1,bw2,bw3,bw4,bw5,bw6,bw7,bc0,bc1,bc2,bc3,bc4,bc5,bc6,bc7,setPs,AV.owns,AV.datF,AV.frz,AV.cpy,ifV,isEqB,nilV,nilX,AV.isNilS,AV.isNoRows,wk,dclo,datOf,binIs,addF,AV.isPtr,idxV,AV.isSl,AV.isSlice,AV.rows,ps,pv,extV,extS,AV.outs,AV.outF,packD,AV.dl,fieldV,fieldS,AV.cells?,AV.upr,AV.menc,AV.one,D.one,Value.oneCell',tagOf,AV.isApp,strV,strS,bolV,bolS,slcV,AV.isSlD,asrtS,AV.dcells,D.cells?,stcV,stcS,leafOk,eqDs,eqD,packA,D.val?,↓reduceIte,reduceCtorEq,Nat.reduceAdd,Nat.reduceSub,Nat.reduceMul,List.reduceReplicate,Nat.reduceLeDiff,Nat.reduceLT,Nat.reduceBEq,Nat.reduceEqDiff,Int.reduceNeg,Int.reduceEq,Int.reduceLE,Int.reduceLT,tfb,p_bnsl,nl_nil,nl_sl,nl_own,nlR_e,nlR_n,ro_n,ro_r,qd_Ro,ox_1,or_own,or_nil,ctz45,O45_5,O45_6,O45_17,O45_19,x45_38,x45_49,x45_70,eq_self, Int.lt_irrefl]
  have hit' : (i : Int) < l.length := by omega
  have hsi : ∀ x : Spn, ((bsN W B l.length i).map Spn.c).set i [.i x.lo, .i x.hi] = ((bsN W B l.length i).set i x).map Spn.c := fun x => List.map_set.symm
  have hs1 := hsi ⟨1, 1⟩
  have hb1 : bsN W B l.length (i + 1) = (bsN W B l.length i).set i (spn W B i l.length) := rfl
  generalize bsN W B l.length i = bs at *
  simp (maxSteps := 4000000) +contextual (disch := first | omega | exact qdb_ok (by kernel_rfl) | exact okb_ok (by kernel_rfl)) only [bw1,bw2,bw3,bw4,bw5,bw6,bw7,bc0,bc1,bc2,bc3,bc4,bc5,bc6,bc7,setPs,AV.owns,AV.datF,AV.frz,AV.cpy,ifV,isEqB,nilV,nilX,AV.isNilS,AV.isNoRows,wk,dclo,datOf,binIs,addF,AV.isPtr,idxV,AV.isSl,AV.isSlice,AV.rows,ps,pv,extV,extS,AV.outs,AV.outF,packD,AV.dl,fieldV,fieldS,AV.cells?,AV.upr,AV.menc,AV.one,D.one,Value.oneCell',tagOf,AV.isApp,strV,strS,bolV,bolS,slcV,AV.isSlD,asrtS,AV.dcells,D.cells?,stcV,stcS,leafOk,eqDs,eqD,packA,D.val?,↓reduceIte,reduceCtorEq,Nat.reduceAdd,Nat.reduceSub,Nat.reduceMul,List.reduceReplicate,Nat.reduceLeDiff,Nat.reduceLT,Nat.reduceBEq,Nat.reduceEqDiff,Int.reduceNeg,Int.reduceEq,Int.reduceLE,Int.reduceLT,tfb,p_bnsl,nl_nil,nl_sl,nl_own,nlR_e,nlR_n,ro_n,ro_r,qd_Ro,ox_1,or_own,or_nil,ctz45,O45_5,O45_6,O45_17,O45_19,x45_38,x45_49,x45_70,eq_self, hit', hbl, hs1, List.length_map]
  refine ⟨by omega, ?_⟩
  refine xl_kg 40 11 ?_
  simp (maxSteps := 4000000) +contextual (disch := first | omega | exact qdb_ok (by kernel_rfl) | exact okb_ok (by kernel_rfl)) only [bw1,bw2,bw3,bw4,bw5,bw6,bw7,bc0,bc1,bc2,bc3,bc4,bc5,bc6,bc7,setPs,AV.owns,AV.datF,AV.frz,AV.cpy,ifV,isEqB,nilV,nilX,AV.isNilS,AV.isNoRows,wk,dclo,datOf,binIs,addF,AV.isPtr,idxV,AV.isSl,AV.isSlice,AV.rows,ps,pv,extV,extS,AV.outs,AV.outF,packD,AV.dl,fieldV,fieldS,AV.cells?,AV.upr,AV.menc,AV.one,D.one,Value.oneCell',tagOf,AV.isApp,strV,strS,bolV,bolS,slcV,AV.isSlD,asrtS,AV.dcells,D.cells?,stcV,stcS,leafOk,eqDs,eqD,packA,D.val?,↓reduceIte,reduceCtorEq,Nat.reduceAdd,Nat.reduceSub,Nat.reduceMul,List.reduceReplicate,Nat.reduceLeDiff,Nat.reduceLT,Nat.reduceBEq,Nat.reduceEqDiff,Int.reduceNeg,Int.reduceEq,Int.reduceLE,Int.reduceLT,tfb,p_bnsl,nl_nil,nl_sl,nl_own,nlR_e,nlR_n,ro_n,ro_r,qd_Ro,ox_1,or_own,or_nil,ctz45,O45_5,O45_6,O45_17,O45_19,x45_38,x45_49,x45_70,eq_self]
  refine loop_u (O := O45) (tb := 0) Ct45_ok hmix (by kernel_rfl) (σ := Nat) (fun k => [(11, .own 40 63 2 ((bs.set i (spn W B i k)).map Spn.c)), (13, .any), (51, .i k)]) (fun k => []) (fun k => k ≤ l.length) (fun k => l.length - k) (fun k => k + 1) 0 (by omega) ?_ ?_
  · simp (maxSteps := 4000000) +contextual (disch := first | omega | exact qdb_ok (by kernel_rfl) | exact okb_ok (by kernel_rfl)) only [bw1,bw2,bw3,bw4,bw5,bw6,bw7,bc0,bc1,bc2,bc3,bc4,bc5,bc6,bc7,setPs,AV.owns,AV.datF,AV.frz,AV.cpy,ifV,isEqB,nilV,nilX,AV.isNilS,AV.isNoRows,wk,dclo,datOf,binIs,addF,AV.isPtr,idxV,AV.isSl,AV.isSlice,AV.rows,ps,pv,extV,extS,AV.outs,AV.outF,packD,AV.dl,fieldV,fieldS,AV.cells?,AV.upr,AV.menc,AV.one,D.one,Value.oneCell',tagOf,AV.isApp,strV,strS,bolV,bolS,slcV,AV.isSlD,asrtS,AV.dcells,D.cells?,stcV,stcS,leafOk,eqDs,eqD,packA,D.val?,↓reduceIte,reduceCtorEq,Nat.reduceAdd,Nat.reduceSub,Nat.reduceMul,List.reduceReplicate,Nat.reduceLeDiff,Nat.reduceLT,Nat.reduceBEq,Nat.reduceEqDiff,Int.reduceNeg,Int.reduceEq,Int.reduceLE,Int.reduceLT,tfb,p_bnsl,nl_nil,nl_sl,nl_own,nlR_e,nlR_n,ro_n,ro_r,qd_Ro,ox_1,or_own,or_nil,ctz45,O45_5,O45_6,O45_17,O45_19,x45_38,x45_49,x45_70,eq_self]
    rfl
  intro k hk
  by_cases hkt : k < l.length
  case neg =>
    have hkt' : ¬ (k : Int) < l.length := by omega
    obtain rfl : k = l.length := by omega
    simp (maxSteps := 4000000) +contextual (disch := first | omega | exact qdb_ok (by kernel_rfl) | exact okb_ok (by kernel_rfl)) only [bw1,bw2,bw3,bw4,bw5,bw6,bw7,bc0,bc1,bc2,bc3,bc4,bc5,bc6,bc7,setPs,AV.owns,AV.datF,AV.frz,AV.cpy,ifV,isEqB,nilV,nilX,AV.isNilS,AV.isNoRows,wk,dclo,datOf,binIs,addF,AV.isPtr,idxV,AV.isSl,AV.isSlice,AV.rows,ps,pv,extV,extS,AV.outs,AV.outF,packD,AV.dl,fieldV,fieldS,AV.cells?,AV.upr,AV.menc,AV.one,D.one,Value.oneCell',tagOf,AV.isApp,strV,strS,bolV,bolS,slcV,AV.isSlD,asrtS,AV.dcells,D.cells?,stcV,stcS,leafOk,eqDs,eqD,packA,D.val?,↓reduceIte,reduceCtorEq,Nat.reduceAdd,Nat.reduceSub,Nat.reduceMul,List.reduceReplicate,Nat.reduceLeDiff,Nat.reduceLT,Nat.reduceBEq,Nat.reduceEqDiff,Int.reduceNeg,Int.reduceEq,Int.reduceLE,Int.reduceLT,tfb,p_bnsl,nl_nil,nl_sl,nl_own,nlR_e,nlR_n,ro_n,ro_r,qd_Ro,ox_1,or_own,or_nil,ctz45,O45_5,O45_6,O45_17,O45_19,x45_38,x45_49,x45_70,eq_self, Int.lt_irrefl, hb1]
    and_intros <;> omega
  have hkt' : (k : Int) < l.length := by omega
  by_cases hki : k = i
  · subst hki
    have hsk : spn W B k (k + 1) = spn W B k k := by simp [spn, cLo]
    simp (maxSteps := 4000000) +contextual (disch := first | omega | exact qdb_ok (by kernel_rfl) | exact okb_ok (by kernel_rfl)) only [bw1,bw2,bw3,bw4,bw5,bw6,bw7,bc0,bc1,bc2,bc3,bc4,bc5,bc6,bc7,setPs,AV.owns,AV.datF,AV.frz,AV.cpy,ifV,isEqB,nilV,nilX,AV.isNilS,AV.isNoRows,wk,dclo,datOf,binIs,addF,AV.isPtr,idxV,AV.isSl,AV.isSlice,AV.rows,ps,pv,extV,extS,AV.outs,AV.outF,packD,AV.dl,fieldV,fieldS,AV.cells?,AV.upr,AV.menc,AV.one,D.one,Value.oneCell',tagOf,AV.isApp,strV,strS,bolV,bolS,slcV,AV.isSlD,asrtS,AV.dcells,D.cells?,stcV,stcS,leafOk,eqDs,eqD,packA,D.val?,↓reduceIte,reduceCtorEq,Nat.reduceAdd,Nat.reduceSub,Nat.reduceMul,List.reduceReplicate,Nat.reduceLeDiff,Nat.reduceLT,Nat.reduceBEq,Nat.reduceEqDiff,Int.reduceNeg,Int.reduceEq,Int.reduceLE,Int.reduceLT,tfb,p_bnsl,nl_nil,nl_sl,nl_own,nlR_e,nlR_n,ro_n,ro_r,qd_Ro,ox_1,or_own,or_nil,ctz45,O45_5,O45_6,O45_17,O45_19,x45_38,x45_49,x45_70,eq_self, hkt', hsk]
    and_intros <;> omega
  have hki' : ((k : Int) == (i : Int)) = false := by simp; omega
  have ha := cLo_b W B i k
  have hb := cLo_b B W i k
  have hla : cLo W B i (k + 1) = cLo W B i k + if better (W.getD k default) (B.getD i default) = true then 1 else 0 := by simp [cLo, hki]
  have hlb : cLo B W i (k + 1) = cLo B W i k + if better (B.getD k default) (W.getD i default) = true then 1 else 0 := by simp [cLo, hki]
  have hsp : spn W B i k = ⟨cLo W B i k, cLo B W i k⟩ := rfl
  have hsp1 : spn W B i (k + 1) = ⟨cLo W B i (k + 1), cLo B W i (k + 1)⟩ := rfl
  rw [hla, hlb] at hsp1
  generalize cLo W B i k = a at *
  generalize cLo B W i k = b at *
  have hrow : ∀ x : Spn, ((bs.set i x).map Spn.c).getD i [] = Spn.c x := fun x => by
    rw [row_at (by rw [List.length_set]; omega), getD_set (by omega), if_pos rfl]
  have hset : ∀ x y : Spn, ((bs.set i x).map Spn.c).set i [.i y.lo, .i y.hi] = (bs.set i y).map Spn.c := fun x y => by
    have : ((bs.set i x).set i y).map Spn.c = ((bs.set i x).map Spn.c).set i (Spn.c y) := List.map_set
    rw [List.set_set] at this
    exact this.symm
  have rk1 : (W.map Sco.c).getD k [] = Sco.c (W.getD k default) := row_at (by omega)
  have rk2 : (B.map Sco.c).getD k [] = Sco.c (B.getD k default) := row_at (by omega)
  have ri1 : (W.map Sco.c).getD i [] = Sco.c (W.getD i default) := row_at (by omega)
  have ri2 : (B.map Sco.c).getD i [] = Sco.c (B.getD i default) := row_at (by omega)
  have hr0 := hrow ⟨a, b⟩
  have hra := hrow ⟨a + 1, b⟩
  have hsa := hset ⟨a, b⟩ ⟨a + 1, b⟩
  have hsb := hset ⟨a, b⟩ ⟨a, b + 1⟩
  have hsc := hset ⟨a + 1, b⟩ ⟨a + 1, b + 1⟩
  by_cases c1 : better (W.getD k default) (B.getD i default) = true
  · rw [if_pos c1] at hsp1
    by_cases c2 : better (B.getD k default) (W.getD i default) = true
    · rw [if_pos c2] at hsp1
      simp (maxSteps := 4000000) +contextual (disch := first | omega | exact qdb_ok (by kernel_rfl) | exact okb_ok (by kernel_rfl)) only [bw1,bw2,bw3,bw4,bw5,bw6,bw7,bc0,bc1,bc2,bc3,bc4,bc5,bc6,bc7,setPs,AV.owns,AV.datF,AV.frz,AV.cpy,ifV,isEqB,nilV,nilX,AV.isNilS,AV.isNoRows,wk,dclo,datOf,binIs,addF,AV.isPtr,idxV,AV.isSl,AV.isSlice,AV.rows,ps,pv,extV,extS,AV.outs,AV.outF,packD,AV.dl,fieldV,fieldS,AV.cells?,AV.upr,AV.menc,AV.one,D.one,Value.oneCell',tagOf,AV.isApp,strV,strS,bolV,bolS,slcV,AV.isSlD,asrtS,AV.dcells,D.cells?,stcV,stcS,leafOk,eqDs,eqD,packA,D.val?,↓reduceIte,reduceCtorEq,Nat.reduceAdd,Nat.reduceSub,Nat.reduceMul,List.reduceReplicate,Nat.reduceLeDiff,Nat.reduceLT,Nat.reduceBEq,Nat.reduceEqDiff,Int.reduceNeg,Int.reduceEq,Int.reduceLE,Int.reduceLT,tfb,p_bnsl,nl_nil,nl_sl,nl_own,nlR_e,nlR_n,ro_n,ro_r,qd_Ro,ox_1,or_own,or_nil,ctz45,O45_5,O45_6,O45_17,O45_19,x45_38,x45_49,x45_70,eq_self, hkt', hki', hsp, hsp1, rk1, rk2, ri1, ri2, hWl, hBl, hit', hbl, hr0, hra, hsa, hsb, hsc, c1, c2, List.length_map, List.length_set]
      and_intros <;> omega
    · rw [if_neg c2, Int.add_zero] at hsp1
      simp (maxSteps := 4000000) +contextual (disch := first | omega | exact qdb_ok (by kernel_rfl) | exact okb_ok (by kernel_rfl)) only [bw1,bw2,bw3,bw4,bw5,bw6,bw7,bc0,bc1,bc2,bc3,bc4,bc5,bc6,bc7,setPs,AV.owns,AV.datF,AV.frz,AV.cpy,ifV,isEqB,nilV,nilX,AV.isNilS,AV.isNoRows,wk,dclo,datOf,binIs,addF,AV.isPtr,idxV,AV.isSl,AV.isSlice,AV.rows,ps,pv,extV,extS,AV.outs,AV.outF,packD,AV.dl,fieldV,fieldS,AV.cells?,AV.upr,AV.menc,AV.one,D.one,Value.oneCell',tagOf,AV.isApp,strV,strS,bolV,bolS,slcV,AV.isSlD,asrtS,AV.dcells,D.cells?,stcV,stcS,leafOk,eqDs,eqD,packA,D.val?,↓reduceIte,reduceCtorEq,Nat.reduceAdd,Nat.reduceSub,Nat.reduceMul,List.reduceReplicate,Nat.reduceLeDiff,Nat.reduceLT,Nat.reduceBEq,Nat.reduceEqDiff,Int.reduceNeg,Int.reduceEq,Int.reduceLE,Int.reduceLT,tfb,p_bnsl,nl_nil,nl_sl,nl_own,nlR_e,nlR_n,ro_n,ro_r,qd_Ro,ox_1,or_own,or_nil,ctz45,O45_5,O45_6,O45_17,O45_19,x45_38,x45_49,x45_70,eq_self, hkt', hki', hsp, hsp1, rk1, rk2, ri1, ri2, hWl, hBl, hit', hbl, hr0, hra, hsa, hsb, hsc, c1, c2, List.length_map, List.length_set]
      and_intros <;> omega
  · rw [if_neg c1, Int.add_zero] at hsp1
    by_cases c2 : better (B.getD k default) (W.getD i default) = true
    · rw [if_pos c2] at hsp1
      simp (maxSteps := 4000000) +contextual (disch := first | omega | exact qdb_ok (by kernel_rfl) | exact okb_ok (by kernel_rfl)) only [bw1,bw2,bw3,bw4,bw5,bw6,bw7,bc0,bc1,bc2,bc3,bc4,bc5,bc6,bc7,setPs,AV.owns,AV.datF,AV.frz,AV.cpy,ifV,isEqB,nilV,nilX,AV.isNilS,AV.isNoRows,wk,dclo,datOf,binIs,addF,AV.isPtr,idxV,AV.isSl,AV.isSlice,AV.rows,ps,pv,extV,extS,AV.outs,AV.outF,packD,AV.dl,fieldV,fieldS,AV.cells?,AV.upr,AV.menc,AV.one,D.one,Value.oneCell',tagOf,AV.isApp,strV,strS,bolV,bolS,slcV,AV.isSlD,asrtS,AV.dcells,D.cells?,stcV,stcS,leafOk,eqDs,eqD,packA,D.val?,↓reduceIte,reduceCtorEq,Nat.reduceAdd,Nat.reduceSub,Nat.reduceMul,List.reduceReplicate,Nat.reduceLeDiff,Nat.reduceLT,Nat.reduceBEq,Nat.reduceEqDiff,Int.reduceNeg,Int.reduceEq,Int.reduceLE,Int.reduceLT,tfb,p_bnsl,nl_nil,nl_sl,nl_own,nlR_e,nlR_n,ro_n,ro_r,qd_Ro,ox_1,or_own,or_nil,ctz45,O45_5,O45_6,O45_17,O45_19,x45_38,x45_49,x45_70,eq_self, hkt', hki', hsp, hsp1, rk1, rk2, ri1, ri2, hWl, hBl, hit', hbl, hr0, hra, hsa, hsb, hsc, c1, c2, List.length_map, List.length_set]
      and_intros <;> omega
    · rw [if_neg c2, Int.add_zero] at hsp1
      simp (maxSteps := 4000000) +contextual (disch := first | omega | exact qdb_ok (by kernel_rfl) | exact okb_ok (by kernel_rfl)) only [bw1,bw2,bw3,bw4,bw5,bw6,bw7,bc0,bc1,bc2,bc3,bc4,bc5,bc6,bc7,setPs,AV.owns,AV.datF,AV.frz,AV.cpy,ifV,isEqB,nilV,nilX,AV.isNilS,AV.isNoRows,wk,dclo,datOf,binIs,addF,AV.isPtr,idxV,AV.isSl,AV.isSlice,AV.rows,ps,pv,extV,extS,AV.outs,AV.outF,packD,AV.dl,fieldV,fieldS,AV.cells?,AV.upr,AV.menc,AV.one,D.one,Value.oneCell',tagOf,AV.isApp,strV,strS,bolV,bolS,slcV,AV.isSlD,asrtS,AV.dcells,D.cells?,stcV,stcS,leafOk,eqDs,eqD,packA,D.val?,↓reduceIte,reduceCtorEq,Nat.reduceAdd,Nat.reduceSub,Nat.reduceMul,List.reduceReplicate,Nat.reduceLeDiff,Nat.reduceLT,Nat.reduceBEq,Nat.reduceEqDiff,Int.reduceNeg,Int.reduceEq,Int.reduceLE,Int.reduceLT,tfb,p_bnsl,nl_nil,nl_sl,nl_own,nlR_e,nlR_n,ro_n,ro_r,qd_Ro,ox_1,or_own,or_nil,ctz45,O45_5,O45_6,O45_17,O45_19,x45_38,x45_49,x45_70,eq_self, hkt', hki', hsp, hsp1, rk1, rk2, ri1, ri2, hWl, hBl, hit', hbl, hr0, hra, hsa, hsb, hsc, c1, c2, List.length_map, List.length_set]
      and_intros <;> omega
def ent45 (args : List AV) (K : AV → List AV → Sto → Prop) (e : List AV) (s : Sto) : Prop := ento (α := (Rul) × (List Ska) × (Nat)) 1901 63 2 (fun aa => [aa.1.d, .sl 3 (aa.2.1.map Ska.c), .i (aa.2.2 : Int)]) (fun aa => aa.2.1.length ≤ 1000 ∧ ∀ s ∈ aa.2.1, VG aa.1 aa.2.2 s) (fun aa => ((swR aa.1 aa.2.1 aa.2.2).map Spn.c)) args K e s
theorem ent45_ok {args : List AV} {K : AV → List AV → Sto → Prop} {Q : Kt} {e : List AV} {s : Sto} (h : ent45 args K e s) : pcall Try.prog 45 args K Q e s := ento_ok (by decide) (fun aa h => pf45 aa.1 aa.2.1 aa.2.2 h) h
theorem eq45 {r : Rul} {l : List Ska} {j : Nat} {KK : AV → List AV → Sto → Prop} {ee : List AV} {ss : Sto} : ent45 [.d (r.d), .d (.sl 3 (l.map Ska.c)), .d (.i (j : Int))] KK ee ss = ((l.length ≤ 1000 ∧ ∀ s ∈ l, VG r j s) ∧ KK (.own 1901 63 2 ((swR r l j).map Spn.c)) (ee.map (AV.kill 1901)) (ss.kill 1901)) := by
  unfold ent45
  exact Eq.trans (ento_iff (r, l, j) (by intro b h; simpa [Prod.ext_iff, and_assoc, Int.ofNat_inj, ints_inj, cals_inj, pcs_inj, skas_inj, scos_inj, ska_inj, rul_inj, sco_inj, cal_inj, ods_inj, od_inj, spns_inj, Int.ofNat_inj, ints_inj, cals_inj, pcs_inj, skas_inj, scos_inj, ska_inj, rul_inj, sco_inj, cal_inj, Int.ofNat_inj, ints_inj, cals_inj, pcs_inj, skas_inj, scos_inj, ska_inj, rul_inj, sco_inj, cal_inj, ods_inj, od_inj, spns_inj] using h) rfl) (by simp)
def O40 : Nat → Sch := fun id => if id = 15 then .one 0 (.one 1 (.one 3 (.one 4 (.one 5 (.alt (.one 2 (.one 6 (.one 7 (.one 8 (.done))))) (.one 6 (.one 2 (.one 7 (.one 8 (.done)))))))))) else .done
theorem O40_15 : O40 15 = .one 0 (.one 1 (.one 3 (.one 4 (.one 5 (.alt (.one 2 (.one 6 (.one 7 (.one 8 (.done))))) (.one 6 (.one 2 (.one 7 (.one 8 (.done)))))))))) := rfl
theorem ho40 : Try.f40.body.map (okO O40) = some true := by kernel_rfl
def Cf40 : Nat → List AV → (AV → List AV → Sto → Prop) → Kt → List AV → Sto → Prop := fun f args K Q e s => match f with
  | 66 => ent66 args K e s
  | 68 => ent68 args K e s
  | _ => False
def Ct40 : CT := { f := Cf40, y := noYld, z := fun d => false }
theorem ctz40 {d : Nat} : CT.z Ct40 d = (false) := id rfl
theorem Ct40_ok : Ct40.ok Try.prog := ok_of_f (fun f args K Q e s h => by
  have h : Cf40 f args K Q e s := h
  unfold Cf40 at h; split at h
  · exact ent66_ok h
  · exact ent68_ok h
  · exact h.elim) (fun _ _ _ _ _ _ _ _ _ h => h)
theorem x40_66 {l : List Od} {gg : Nat} {KK : AV → List AV → Sto → Prop} {QQ : Kt} {ii : At KK} {jj : At QQ} {ee : List AV} {ss : Sto} : xC Ct40 66 [.own gg 101 7 (l.map oc), .d (cl67)] KK QQ ii jj ee ss = ((l.length ≤ 16 ∧ Dst ky l) ∧ upOk gg 101 7 (l.map oc) ee ss ∧ ∀ (l' : List Od), (SrtP l l') → KK (.d (.tup [])) (ee.map (AV.ups gg (l'.map oc))) (ss.ups gg (l'.map oc))) := eq66
theorem x40_68 {r : Rul} {c : Cal} {KK : AV → List AV → Sto → Prop} {QQ : Kt} {ii : At KK} {jj : At QQ} {ee : List AV} {ss : Sto} : xC Ct40 68 [.d (r.d), .d (.agg c.c)] KK QQ ii jj ee ss = ((VC r c) ∧ KK (.d (.i (valC r c))) ee ss) := eq68
theorem c40 : callable Try.prog 40 = true := by kernel_rfl
theorem pf40 (r : Rul) (s : Ska) (h : VS r s) : PFo Try.prog 40 3 1 [r.d, .agg s.c] (fun zz => zz = ((valsR r s s.calls.length).map ic)) := by
  obtain ⟨h16, hcall, hdist, hmost⟩ := h
  have hod0 : odN s 0 = [] := rfl
  have hod1 : ∀ k, odN s (k + 1) = odN s k ++ [⟨s.calls.getD k default, (k : Int)⟩] := fun k => odN_succ
  have hodl : ∀ k, (odN s k).length = k := fun k => odN_len
  refine PFo_start (O := O40) Ct40_ok hmix ho40 Try.func40 c40 rfl Try.ntmps40 Try.results40 ?_
  simp (maxSteps := 4000000) +contextual (disch := first | omega | exact qdb_ok (by kernel_rfl) | exact okb_ok (by kernel_rfl)) only [bw1,bw2,bw3,bw4,bw5,bw6,bw7,bc0,bc1,bc2,bc3,bc4,bc5,bc6,bc7,setPs,AV.owns,AV.datF,AV.frz,AV.cpy,ifV,isEqB,nilV,nilX,AV.isNilS,AV.isNoRows,wk,dclo,datOf,binIs,addF,AV.isPtr,idxV,AV.isSl,AV.isSlice,AV.rows,ps,pv,extV,extS,AV.outs,AV.outF,packD,AV.dl,fieldV,fieldS,AV.cells?,AV.upr,AV.menc,AV.one,D.one,Value.oneCell',tagOf,AV.isApp,strV,strS,bolV,bolS,slcV,AV.isSlD,asrtS,AV.dcells,D.cells?,stcV,stcS,leafOk,eqDs,eqD,packA,D.val?,↓reduceIte,reduceCtorEq,Nat.reduceAdd,Nat.reduceSub,Nat.reduceMul,List.reduceReplicate,Nat.reduceLeDiff,Nat.reduceLT,Nat.reduceBEq,Nat.reduceEqDiff,Int.reduceNeg,Int.reduceEq,Int.reduceLE,Int.reduceLT,tfb,p_bnsl,nl_nil,nl_sl,nl_own,nlR_e,nlR_n,ro_n,ro_r,qd_Ro,ox_1,or_own,or_nil,upOk,gU,bu0,ctz40,O40_15,x40_66,x40_68]
  refine seed (m1 := mk _) (m2 := mk _) 5 26 101 7 (by decide) rfl rfl (by simp [Sto.mens, AV.mens, AV.men]) rfl ?_
  refine loop_u (O := O40) (tb := 0) Ct40_ok hmix (by kernel_rfl) (σ := Nat) (fun k => [(5, .own 26 101 7 ((odN s k).map oc)), (6, .any), (7, .any), (15, .i k)]) (fun k => []) (fun k => k ≤ s.calls.length) (fun k => s.calls.length - k) (fun k => k + 1) 0 (by omega) ?_ ?_
  · simp (maxSteps := 4000000) +contextual (disch := first | omega | exact qdb_ok (by kernel_rfl) | exact okb_ok (by kernel_rfl)) only [bw1,bw2,bw3,bw4,bw5,bw6,bw7,bc0,bc1,bc2,bc3,bc4,bc5,bc6,bc7,setPs,AV.owns,AV.datF,AV.frz,AV.cpy,ifV,isEqB,nilV,nilX,AV.isNilS,AV.isNoRows,wk,dclo,datOf,binIs,addF,AV.isPtr,idxV,AV.isSl,AV.isSlice,AV.rows,ps,pv,extV,extS,AV.outs,AV.outF,packD,AV.dl,fieldV,fieldS,AV.cells?,AV.upr,AV.menc,AV.one,D.one,Value.oneCell',tagOf,AV.isApp,strV,strS,bolV,bolS,slcV,AV.isSlD,asrtS,AV.dcells,D.cells?,stcV,stcS,leafOk,eqDs,eqD,packA,D.val?,↓reduceIte,reduceCtorEq,Nat.reduceAdd,Nat.reduceSub,Nat.reduceMul,List.reduceReplicate,Nat.reduceLeDiff,Nat.reduceLT,Nat.reduceBEq,Nat.reduceEqDiff,Int.reduceNeg,Int.reduceEq,Int.reduceLE,Int.reduceLT,tfb,p_bnsl,nl_nil,nl_sl,nl_own,nlR_e,nlR_n,ro_n,ro_r,qd_Ro,ox_1,or_own,or_nil,upOk,gU,bu0,ctz40,O40_15,x40_66,x40_68,eq_self, hod0]
  intro k hk
  by_cases hlt : k < s.calls.length
  · have hlt' : (k : Int) < s.calls.length := by omega
    have hod1k := hod1 k
    have hodlk := hodl k
    simp (maxSteps := 4000000) +contextual (disch := first | omega | exact qdb_ok (by kernel_rfl) | exact okb_ok (by kernel_rfl)) only [bw1,bw2,bw3,bw4,bw5,bw6,bw7,bc0,bc1,bc2,bc3,bc4,bc5,bc6,bc7,setPs,AV.owns,AV.datF,AV.frz,AV.cpy,ifV,isEqB,nilV,nilX,AV.isNilS,AV.isNoRows,wk,dclo,datOf,binIs,addF,AV.isPtr,idxV,AV.isSl,AV.isSlice,AV.rows,ps,pv,extV,extS,AV.outs,AV.outF,packD,AV.dl,fieldV,fieldS,AV.cells?,AV.upr,AV.menc,AV.one,D.one,Value.oneCell',tagOf,AV.isApp,strV,strS,bolV,bolS,slcV,AV.isSlD,asrtS,AV.dcells,D.cells?,stcV,stcS,leafOk,eqDs,eqD,packA,D.val?,↓reduceIte,reduceCtorEq,Nat.reduceAdd,Nat.reduceSub,Nat.reduceMul,List.reduceReplicate,Nat.reduceLeDiff,Nat.reduceLT,Nat.reduceBEq,Nat.reduceEqDiff,Int.reduceNeg,Int.reduceEq,Int.reduceLE,Int.reduceLT,tfb,p_bnsl,nl_nil,nl_sl,nl_own,nlR_e,nlR_n,ro_n,ro_r,qd_Ro,ox_1,or_own,or_nil,upOk,gU,bu0,ctz40,O40_15,x40_66,x40_68,eq_self, hlt', hod1k, hodlk, List.length_map]
    refine ⟨by omega, by omega, by omega, by omega, ?_⟩
    rw [List.map_append]; rfl
  have hlt' : ¬ (k : Int) < s.calls.length := by omega
  obtain rfl : k = s.calls.length := by omega
  have hdo := odN_dst hdist
  have hol := hodl s.calls.length
  simp (maxSteps := 4000000) +contextual (disch := first | omega | exact qdb_ok (by kernel_rfl) | exact okb_ok (by kernel_rfl)) only [bw1,bw2,bw3,bw4,bw5,bw6,bw7,bc0,bc1,bc2,bc3,bc4,bc5,bc6,bc7,setPs,AV.owns,AV.datF,AV.frz,AV.cpy,ifV,isEqB,nilV,nilX,AV.isNilS,AV.isNoRows,wk,dclo,datOf,binIs,addF,AV.isPtr,idxV,AV.isSl,AV.isSlice,AV.rows,ps,pv,extV,extS,AV.outs,AV.outF,packD,AV.dl,fieldV,fieldS,AV.cells?,AV.upr,AV.menc,AV.one,D.one,Value.oneCell',tagOf,AV.isApp,strV,strS,bolV,bolS,slcV,AV.isSlD,asrtS,AV.dcells,D.cells?,stcV,stcS,leafOk,eqDs,eqD,packA,D.val?,↓reduceIte,reduceCtorEq,Nat.reduceAdd,Nat.reduceSub,Nat.reduceMul,List.reduceReplicate,Nat.reduceLeDiff,Nat.reduceLT,Nat.reduceBEq,Nat.reduceEqDiff,Int.reduceNeg,Int.reduceEq,Int.reduceLE,Int.reduceLT,tfb,p_bnsl,nl_nil,nl_sl,nl_own,nlR_e,nlR_n,ro_n,ro_r,qd_Ro,ox_1,or_own,or_nil,upOk,gU,bu0,ctz40,O40_15,x40_66,x40_68,eq_self, hlt', Int.lt_irrefl, hol]
  refine ⟨⟨h16, hdo⟩, fun l hso => ⟨by omega, by omega, by omega, ?_⟩⟩
  have hll : l.length = s.calls.length := by rw [hso.1.length_eq, odN_len]
  have hrep : List.replicate s.calls.length [D.v (Value.int .i64 0)] = (List.replicate s.calls.length (0 : Int)).map ic := by rw [List.map_replicate]
  refine loop_xu (O := O40) (tb := 0) Ct40_ok hmix (by kernel_rfl) (σ := Nat × List (Int × Int) × List Int) (fun x => [(9, .own 34 3 1 (x.2.2.map ic)), (33, .any), (11, .any), (36, .i x.1)]) (fun x => [(2000000029, ents fki fki x.2.1)]) (fun x => x.1 ≤ l.length ∧ MapOk l x.1 x.2.1 ∧ outOk r s l x.1 x.2.2) (fun x => l.length - x.1) (0, [], List.replicate s.calls.length (0 : Int)) ⟨by omega, ⟨by simp, by simp, fun e _ => rfl⟩, by simp, fun p hp => ?_⟩ ?_ ?_
  · rw [if_neg (by omega)]
    obtain ⟨i, hi, e1⟩ := od_at hso.1 hp
    rw [e1]; simp [List.getD, hi]
  · simp (maxSteps := 4000000) +contextual (disch := first | omega | exact qdb_ok (by kernel_rfl) | exact okb_ok (by kernel_rfl)) only [bw1,bw2,bw3,bw4,bw5,bw6,bw7,bc0,bc1,bc2,bc3,bc4,bc5,bc6,bc7,setPs,AV.owns,AV.datF,AV.frz,AV.cpy,ifV,isEqB,nilV,nilX,AV.isNilS,AV.isNoRows,wk,dclo,datOf,binIs,addF,AV.isPtr,idxV,AV.isSl,AV.isSlice,AV.rows,ps,pv,extV,extS,AV.outs,AV.outF,packD,AV.dl,fieldV,fieldS,AV.cells?,AV.upr,AV.menc,AV.one,D.one,Value.oneCell',tagOf,AV.isApp,strV,strS,bolV,bolS,slcV,AV.isSlD,asrtS,AV.dcells,D.cells?,stcV,stcS,leafOk,eqDs,eqD,packA,D.val?,↓reduceIte,reduceCtorEq,Nat.reduceAdd,Nat.reduceSub,Nat.reduceMul,List.reduceReplicate,Nat.reduceLeDiff,Nat.reduceLT,Nat.reduceBEq,Nat.reduceEqDiff,Int.reduceNeg,Int.reduceEq,Int.reduceLE,Int.reduceLT,tfb,p_bnsl,nl_nil,nl_sl,nl_own,nlR_e,nlR_n,ro_n,ro_r,qd_Ro,ox_1,or_own,or_nil,upOk,gU,bu0,ctz40,O40_15,x40_66,x40_68,eq_self, hrep]
    exact trivial
  rintro ⟨k, M, O⟩ ⟨hk, ⟨hM1, hM2, hM3⟩, hO⟩
  dsimp only at hk hM1 hM2 hM3 hO ⊢
  by_cases hlt : k < l.length
  case neg =>
    have hlt' : ¬ (k : Int) < l.length := by omega
    obtain rfl : k = l.length := by omega
    have hend := out_end hso.1 hO
    simp (maxSteps := 4000000) +contextual (disch := first | omega | exact qdb_ok (by kernel_rfl) | exact okb_ok (by kernel_rfl)) only [bw1,bw2,bw3,bw4,bw5,bw6,bw7,bc0,bc1,bc2,bc3,bc4,bc5,bc6,bc7,setPs,AV.owns,AV.datF,AV.frz,AV.cpy,ifV,isEqB,nilV,nilX,AV.isNilS,AV.isNoRows,wk,dclo,datOf,binIs,addF,AV.isPtr,idxV,AV.isSl,AV.isSlice,AV.rows,ps,pv,extV,extS,AV.outs,AV.outF,packD,AV.dl,fieldV,fieldS,AV.cells?,AV.upr,AV.menc,AV.one,D.one,Value.oneCell',tagOf,AV.isApp,strV,strS,bolV,bolS,slcV,AV.isSlD,asrtS,AV.dcells,D.cells?,stcV,stcS,leafOk,eqDs,eqD,packA,D.val?,↓reduceIte,reduceCtorEq,Nat.reduceAdd,Nat.reduceSub,Nat.reduceMul,List.reduceReplicate,Nat.reduceLeDiff,Nat.reduceLT,Nat.reduceBEq,Nat.reduceEqDiff,Int.reduceNeg,Int.reduceEq,Int.reduceLE,Int.reduceLT,tfb,p_bnsl,nl_nil,nl_sl,nl_own,nlR_e,nlR_n,ro_n,ro_r,qd_Ro,ox_1,or_own,or_nil,upOk,gU,bu0,ctz40,O40_15,x40_66,x40_68,eq_self, Int.lt_irrefl, hend, hll]
  have hlt' : (k : Int) < l.length := by omega
  obtain ⟨ix, hixl, hod⟩ := od_at hso.1 hlt
  have hix : (l.getD k default).index = (ix : Int) := by rw [hod]
  have hxc : (l.getD k default).call = s.calls.getD ix default := by rw [hod]
  have hce0 := cnt_eq hdist hso hlt
  obtain ⟨c, hcc⟩ : ∃ c, s.calls.getD ix default = c := ⟨_, rfl⟩
  have hxc' : (l.getD k default).call = c := by rw [hxc, hcc]
  have heE : (l.getD k default).call.elem = c.elem := by rw [hxc']
  have hce : cntE s.calls (s.calls.getD ix default) s.calls.length = cntL l k c.elem := by rw [hcc, ← hxc', hce0, heE]
  have hvc : VC r c := hcall c (by rw [← hcc, at_lt hixl]; exact List.getElem_mem _)
  have hie : i64 c.elem := by have := hvc.elem; have := hvc.blen; unfold i64; omega
  have hko := keyOf3 hie
  have hmo : mapOk Try.prog 3 (ents fki fki M) := ents_ok' (fkv := fun n => Value.int .i64 n) fki_val fun p hp => keyOf3 (hM2 p.1 p.2 hp).2
  have r1 : (l.map oc).getD k [] = oc ⟨c, (ix : Int)⟩ := by rw [row_at hlt, hod, hcc]
  clear hce0 hxc
  simp (maxSteps := 4000000) +contextual (disch := first | omega | exact qdb_ok (by kernel_rfl) | exact okb_ok (by kernel_rfl)) only [bw1,bw2,bw3,bw4,bw5,bw6,bw7,bc0,bc1,bc2,bc3,bc4,bc5,bc6,bc7,setPs,AV.owns,AV.datF,AV.frz,AV.cpy,ifV,isEqB,nilV,nilX,AV.isNilS,AV.isNoRows,wk,dclo,datOf,binIs,addF,AV.isPtr,idxV,AV.isSl,AV.isSlice,AV.rows,ps,pv,extV,extS,AV.outs,AV.outF,packD,AV.dl,fieldV,fieldS,AV.cells?,AV.upr,AV.menc,AV.one,D.one,Value.oneCell',tagOf,AV.isApp,strV,strS,bolV,bolS,slcV,AV.isSlD,asrtS,AV.dcells,D.cells?,stcV,stcS,leafOk,eqDs,eqD,packA,D.val?,↓reduceIte,reduceCtorEq,Nat.reduceAdd,Nat.reduceSub,Nat.reduceMul,List.reduceReplicate,Nat.reduceLeDiff,Nat.reduceLT,Nat.reduceBEq,Nat.reduceEqDiff,Int.reduceNeg,Int.reduceEq,Int.reduceLE,Int.reduceLT,tfb,p_bnsl,nl_nil,nl_sl,nl_own,nlR_e,nlR_n,ro_n,ro_r,qd_Ro,ox_1,or_own,or_nil,upOk,gU,bu0,ctz40,O40_15,x40_66,x40_68,eq_self, hlt', r1, key3', kill_ents, mencs_ents, hko, hmo]
  refine ⟨by omega, ?_⟩
  refine xLk_ents (fkv := fun n => Value.int .i64 n) fki_val fki_inj (fun v hv => ?_) (fun hno => ?_)
  · have hc : v = cntL l k c.elem := (hM2 c.elem v hv).1
    have hcb := cntL_b l k c.elem
    have hw1 : (v : Int) + 1 ≤ 1000 := by omega
    simp (maxSteps := 4000000) +contextual (disch := first | omega | exact qdb_ok (by kernel_rfl) | exact okb_ok (by kernel_rfl)) only [bw1,bw2,bw3,bw4,bw5,bw6,bw7,bc0,bc1,bc2,bc3,bc4,bc5,bc6,bc7,setPs,AV.owns,AV.datF,AV.frz,AV.cpy,ifV,isEqB,nilV,nilX,AV.isNilS,AV.isNoRows,wk,dclo,datOf,binIs,addF,AV.isPtr,idxV,AV.isSl,AV.isSlice,AV.rows,ps,pv,extV,extS,AV.outs,AV.outF,packD,AV.dl,fieldV,fieldS,AV.cells?,AV.upr,AV.menc,AV.one,D.one,Value.oneCell',tagOf,AV.isApp,strV,strS,bolV,bolS,slcV,AV.isSlD,asrtS,AV.dcells,D.cells?,stcV,stcS,leafOk,eqDs,eqD,packA,D.val?,↓reduceIte,reduceCtorEq,Nat.reduceAdd,Nat.reduceSub,Nat.reduceMul,List.reduceReplicate,Nat.reduceLeDiff,Nat.reduceLT,Nat.reduceBEq,Nat.reduceEqDiff,Int.reduceNeg,Int.reduceEq,Int.reduceLE,Int.reduceLT,tfb,p_bnsl,nl_nil,nl_sl,nl_own,nlR_e,nlR_n,ro_n,ro_r,qd_Ro,ox_1,or_own,or_nil,upOk,gU,bu0,ctz40,O40_15,x40_66,x40_68,eq_self, key3', kill_ents, mencs_ents, hko, hmo]
    refine xUp_put (fkv := fun n => Value.int .i64 n) (k := c.elem) (v := v + 1) fki_val fki_inj rfl rfl hM1 (fun M' hn' hm' => ?_)
    have hM' : MapOk l (k + 1) M' := by
      refine ⟨hn', fun e' v' hv' => ?_, fun e' hno => ?_⟩
      · rw [cntL_succ hlt, heE]
        rcases (hm' e' v').1 hv' with ⟨rfl, rfl⟩ | ⟨h1, h2⟩
        · rw [if_pos rfl, hc]; exact ⟨rfl, hie⟩
        · rw [if_neg (Ne.symm h1)]
          have := hM2 e' v' h2
          exact ⟨by omega, this.2⟩
      · rw [cntL_succ hlt, heE]
        by_cases h1 : e' = c.elem
        · exact absurd ((hm' e' (v + 1)).2 (.inl ⟨h1, rfl⟩)) (hno _)
        · rw [if_neg (Ne.symm h1), hM3 e' (fun v hv => hno v ((hm' e' v).2 (.inr ⟨h1, hv⟩)))]; rfl
    have hmo' : mapOk Try.prog 3 (ents fki fki M') := ents_ok' (fkv := fun n => Value.int .i64 n) fki_val fun p hp => keyOf3 (hM'.2.1 p.1 p.2 hp).2
    simp (maxSteps := 4000000) +contextual (disch := first | omega | exact qdb_ok (by kernel_rfl) | exact okb_ok (by kernel_rfl)) only [bw1,bw2,bw3,bw4,bw5,bw6,bw7,bc0,bc1,bc2,bc3,bc4,bc5,bc6,bc7,setPs,AV.owns,AV.datF,AV.frz,AV.cpy,ifV,isEqB,nilV,nilX,AV.isNilS,AV.isNoRows,wk,dclo,datOf,binIs,addF,AV.isPtr,idxV,AV.isSl,AV.isSlice,AV.rows,ps,pv,extV,extS,AV.outs,AV.outF,packD,AV.dl,fieldV,fieldS,AV.cells?,AV.upr,AV.menc,AV.one,D.one,Value.oneCell',tagOf,AV.isApp,strV,strS,bolV,bolS,slcV,AV.isSlD,asrtS,AV.dcells,D.cells?,stcV,stcS,leafOk,eqDs,eqD,packA,D.val?,↓reduceIte,reduceCtorEq,Nat.reduceAdd,Nat.reduceSub,Nat.reduceMul,List.reduceReplicate,Nat.reduceLeDiff,Nat.reduceLT,Nat.reduceBEq,Nat.reduceEqDiff,Int.reduceNeg,Int.reduceEq,Int.reduceLE,Int.reduceLT,tfb,p_bnsl,nl_nil,nl_sl,nl_own,nlR_e,nlR_n,ro_n,ro_r,qd_Ro,ox_1,or_own,or_nil,upOk,gU,bu0,ctz40,O40_15,x40_66,x40_68,eq_self, key3', kill_ents, mencs_ents, hko, hmo']
    refine xLk_ents (fkv := fun n => Value.int .i64 n) fki_val fki_inj (fun v2 hv2 => ?_) (fun hno => absurd ((hm' c.elem (v + 1)).2 (.inl ⟨rfl, rfl⟩)) (hno _))
    have hv2e : v2 = v + 1 := by
      rcases (hm' c.elem v2).1 hv2 with h1 | h1
      · exact h1.2
      · exact absurd rfl h1.1
    subst hv2e
    by_cases hq : (v : Int) + 1 ≤ r.most
    · have hcB : countsB r s ix = true := by unfold countsB; rw [hce]; exact decide_eq_true (by omega)
      have hst := out_step hdist hso.1 hlt hO (valC r c) (by rw [hix, Int.toNat_natCast, valR_eq, hcB, if_pos rfl, hcc])
      rw [hix, Int.toNat_natCast] at hst
      have hrs := row_set (O := O) (i := ix) (v := valC r c) (by rw [hO.1]; exact hixl)
      have hol2 : (ix : Int) < O.length := by rw [hO.1]; omega
      simp (maxSteps := 4000000) +contextual (disch := first | omega | exact qdb_ok (by kernel_rfl) | exact okb_ok (by kernel_rfl)) only [bw1,bw2,bw3,bw4,bw5,bw6,bw7,bc0,bc1,bc2,bc3,bc4,bc5,bc6,bc7,setPs,AV.owns,AV.datF,AV.frz,AV.cpy,ifV,isEqB,nilV,nilX,AV.isNilS,AV.isNoRows,wk,dclo,datOf,binIs,addF,AV.isPtr,idxV,AV.isSl,AV.isSlice,AV.rows,ps,pv,extV,extS,AV.outs,AV.outF,packD,AV.dl,fieldV,fieldS,AV.cells?,AV.upr,AV.menc,AV.one,D.one,Value.oneCell',tagOf,AV.isApp,strV,strS,bolV,bolS,slcV,AV.isSlD,asrtS,AV.dcells,D.cells?,stcV,stcS,leafOk,eqDs,eqD,packA,D.val?,↓reduceIte,reduceCtorEq,Nat.reduceAdd,Nat.reduceSub,Nat.reduceMul,List.reduceReplicate,Nat.reduceLeDiff,Nat.reduceLT,Nat.reduceBEq,Nat.reduceEqDiff,Int.reduceNeg,Int.reduceEq,Int.reduceLE,Int.reduceLT,tfb,p_bnsl,nl_nil,nl_sl,nl_own,nlR_e,nlR_n,ro_n,ro_r,qd_Ro,ox_1,or_own,or_nil,upOk,gU,bu0,ctz40,O40_15,x40_66,x40_68,eq_self, hq, hrs, hol2, List.length_map]
      refine ⟨hvc, by omega, (k + 1, M', O.set ix (valC r c)), ⟨⟨hlt, hM', hst⟩, by dsimp only; omega⟩, ⟨List.map_set.symm, rfl⟩, ?_⟩
      rw [upr_ents]
      exact wk_ents _
    · have hcB : countsB r s ix = false := by unfold countsB; rw [hce]; exact decide_eq_false (by omega)
      have hst := out_skip hlt hO (by rw [hix, Int.toNat_natCast, valR_eq, hcB]; rfl)
      simp (maxSteps := 4000000) +contextual (disch := first | omega | exact qdb_ok (by kernel_rfl) | exact okb_ok (by kernel_rfl)) only [bw1,bw2,bw3,bw4,bw5,bw6,bw7,bc0,bc1,bc2,bc3,bc4,bc5,bc6,bc7,setPs,AV.owns,AV.datF,AV.frz,AV.cpy,ifV,isEqB,nilV,nilX,AV.isNilS,AV.isNoRows,wk,dclo,datOf,binIs,addF,AV.isPtr,idxV,AV.isSl,AV.isSlice,AV.rows,ps,pv,extV,extS,AV.outs,AV.outF,packD,AV.dl,fieldV,fieldS,AV.cells?,AV.upr,AV.menc,AV.one,D.one,Value.oneCell',tagOf,AV.isApp,strV,strS,bolV,bolS,slcV,AV.isSlD,asrtS,AV.dcells,D.cells?,stcV,stcS,leafOk,eqDs,eqD,packA,D.val?,↓reduceIte,reduceCtorEq,Nat.reduceAdd,Nat.reduceSub,Nat.reduceMul,List.reduceReplicate,Nat.reduceLeDiff,Nat.reduceLT,Nat.reduceBEq,Nat.reduceEqDiff,Int.reduceNeg,Int.reduceEq,Int.reduceLE,Int.reduceLT,tfb,p_bnsl,nl_nil,nl_sl,nl_own,nlR_e,nlR_n,ro_n,ro_r,qd_Ro,ox_1,or_own,or_nil,upOk,gU,bu0,ctz40,O40_15,x40_66,x40_68,eq_self, hq]
      exact ⟨(k + 1, M', O), ⟨⟨hlt, hM', hst⟩, by dsimp only; omega⟩, ⟨rfl, rfl⟩, wk_ents _⟩
  · have hc : (0 : Int) = cntL l k c.elem := (hM3 c.elem hno).symm
    have hcb := cntL_b l k c.elem
    have hw1 : (0 : Int) + 1 ≤ 1000 := by omega
    simp (maxSteps := 4000000) +contextual (disch := first | omega | exact qdb_ok (by kernel_rfl) | exact okb_ok (by kernel_rfl)) only [bw1,bw2,bw3,bw4,bw5,bw6,bw7,bc0,bc1,bc2,bc3,bc4,bc5,bc6,bc7,setPs,AV.owns,AV.datF,AV.frz,AV.cpy,ifV,isEqB,nilV,nilX,AV.isNilS,AV.isNoRows,wk,dclo,datOf,binIs,addF,AV.isPtr,idxV,AV.isSl,AV.isSlice,AV.rows,ps,pv,extV,extS,AV.outs,AV.outF,packD,AV.dl,fieldV,fieldS,AV.cells?,AV.upr,AV.menc,AV.one,D.one,Value.oneCell',tagOf,AV.isApp,strV,strS,bolV,bolS,slcV,AV.isSlD,asrtS,AV.dcells,D.cells?,stcV,stcS,leafOk,eqDs,eqD,packA,D.val?,↓reduceIte,reduceCtorEq,Nat.reduceAdd,Nat.reduceSub,Nat.reduceMul,List.reduceReplicate,Nat.reduceLeDiff,Nat.reduceLT,Nat.reduceBEq,Nat.reduceEqDiff,Int.reduceNeg,Int.reduceEq,Int.reduceLE,Int.reduceLT,tfb,p_bnsl,nl_nil,nl_sl,nl_own,nlR_e,nlR_n,ro_n,ro_r,qd_Ro,ox_1,or_own,or_nil,upOk,gU,bu0,ctz40,O40_15,x40_66,x40_68,eq_self, key3', kill_ents, mencs_ents, hko, hmo]
    refine xUp_put (fkv := fun n => Value.int .i64 n) (k := c.elem) (v := 0 + 1) fki_val fki_inj rfl rfl hM1 (fun M' hn' hm' => ?_)
    have hM' : MapOk l (k + 1) M' := by
      refine ⟨hn', fun e' v' hv' => ?_, fun e' hno => ?_⟩
      · rw [cntL_succ hlt, heE]
        rcases (hm' e' v').1 hv' with ⟨rfl, rfl⟩ | ⟨h1, h2⟩
        · rw [if_pos rfl, hc]; exact ⟨rfl, hie⟩
        · rw [if_neg (Ne.symm h1)]
          have := hM2 e' v' h2
          exact ⟨by omega, this.2⟩
      · rw [cntL_succ hlt, heE]
        by_cases h1 : e' = c.elem
        · exact absurd ((hm' e' (0 + 1)).2 (.inl ⟨h1, rfl⟩)) (hno _)
        · rw [if_neg (Ne.symm h1), hM3 e' (fun v hv => hno v ((hm' e' v).2 (.inr ⟨h1, hv⟩)))]; rfl
    have hmo' : mapOk Try.prog 3 (ents fki fki M') := ents_ok' (fkv := fun n => Value.int .i64 n) fki_val fun p hp => keyOf3 (hM'.2.1 p.1 p.2 hp).2
    simp (maxSteps := 4000000) +contextual (disch := first | omega | exact qdb_ok (by kernel_rfl) | exact okb_ok (by kernel_rfl)) only [bw1,bw2,bw3,bw4,bw5,bw6,bw7,bc0,bc1,bc2,bc3,bc4,bc5,bc6,bc7,setPs,AV.owns,AV.datF,AV.frz,AV.cpy,ifV,isEqB,nilV,nilX,AV.isNilS,AV.isNoRows,wk,dclo,datOf,binIs,addF,AV.isPtr,idxV,AV.isSl,AV.isSlice,AV.rows,ps,pv,extV,extS,AV.outs,AV.outF,packD,AV.dl,fieldV,fieldS,AV.cells?,AV.upr,AV.menc,AV.one,D.one,Value.oneCell',tagOf,AV.isApp,strV,strS,bolV,bolS,slcV,AV.isSlD,asrtS,AV.dcells,D.cells?,stcV,stcS,leafOk,eqDs,eqD,packA,D.val?,↓reduceIte,reduceCtorEq,Nat.reduceAdd,Nat.reduceSub,Nat.reduceMul,List.reduceReplicate,Nat.reduceLeDiff,Nat.reduceLT,Nat.reduceBEq,Nat.reduceEqDiff,Int.reduceNeg,Int.reduceEq,Int.reduceLE,Int.reduceLT,tfb,p_bnsl,nl_nil,nl_sl,nl_own,nlR_e,nlR_n,ro_n,ro_r,qd_Ro,ox_1,or_own,or_nil,upOk,gU,bu0,ctz40,O40_15,x40_66,x40_68,eq_self, key3', kill_ents, mencs_ents, hko, hmo']
    refine xLk_ents (fkv := fun n => Value.int .i64 n) fki_val fki_inj (fun v2 hv2 => ?_) (fun hno => absurd ((hm' c.elem (0 + 1)).2 (.inl ⟨rfl, rfl⟩)) (hno _))
    have hv2e : v2 = 0 + 1 := by
      rcases (hm' c.elem v2).1 hv2 with h1 | h1
      · exact h1.2
      · exact absurd rfl h1.1
    subst hv2e
    by_cases hq : (0 : Int) + 1 ≤ r.most
    · have hcB : countsB r s ix = true := by unfold countsB; rw [hce]; exact decide_eq_true (by omega)
      have hst := out_step hdist hso.1 hlt hO (valC r c) (by rw [hix, Int.toNat_natCast, valR_eq, hcB, if_pos rfl, hcc])
      rw [hix, Int.toNat_natCast] at hst
      have hrs := row_set (O := O) (i := ix) (v := valC r c) (by rw [hO.1]; exact hixl)
      have hol2 : (ix : Int) < O.length := by rw [hO.1]; omega
      simp (maxSteps := 4000000) +contextual (disch := first | omega | exact qdb_ok (by kernel_rfl) | exact okb_ok (by kernel_rfl)) only [bw1,bw2,bw3,bw4,bw5,bw6,bw7,bc0,bc1,bc2,bc3,bc4,bc5,bc6,bc7,setPs,AV.owns,AV.datF,AV.frz,AV.cpy,ifV,isEqB,nilV,nilX,AV.isNilS,AV.isNoRows,wk,dclo,datOf,binIs,addF,AV.isPtr,idxV,AV.isSl,AV.isSlice,AV.rows,ps,pv,extV,extS,AV.outs,AV.outF,packD,AV.dl,fieldV,fieldS,AV.cells?,AV.upr,AV.menc,AV.one,D.one,Value.oneCell',tagOf,AV.isApp,strV,strS,bolV,bolS,slcV,AV.isSlD,asrtS,AV.dcells,D.cells?,stcV,stcS,leafOk,eqDs,eqD,packA,D.val?,↓reduceIte,reduceCtorEq,Nat.reduceAdd,Nat.reduceSub,Nat.reduceMul,List.reduceReplicate,Nat.reduceLeDiff,Nat.reduceLT,Nat.reduceBEq,Nat.reduceEqDiff,Int.reduceNeg,Int.reduceEq,Int.reduceLE,Int.reduceLT,tfb,p_bnsl,nl_nil,nl_sl,nl_own,nlR_e,nlR_n,ro_n,ro_r,qd_Ro,ox_1,or_own,or_nil,upOk,gU,bu0,ctz40,O40_15,x40_66,x40_68,eq_self, hq, hrs, hol2, List.length_map]
      refine ⟨hvc, by omega, (k + 1, M', O.set ix (valC r c)), ⟨⟨hlt, hM', hst⟩, by dsimp only; omega⟩, ⟨List.map_set.symm, rfl⟩, ?_⟩
      rw [upr_ents]
      exact wk_ents _
    · have hcB : countsB r s ix = false := by unfold countsB; rw [hce]; exact decide_eq_false (by omega)
      have hst := out_skip hlt hO (by rw [hix, Int.toNat_natCast, valR_eq, hcB]; rfl)
      simp (maxSteps := 4000000) +contextual (disch := first | omega | exact qdb_ok (by kernel_rfl) | exact okb_ok (by kernel_rfl)) only [bw1,bw2,bw3,bw4,bw5,bw6,bw7,bc0,bc1,bc2,bc3,bc4,bc5,bc6,bc7,setPs,AV.owns,AV.datF,AV.frz,AV.cpy,ifV,isEqB,nilV,nilX,AV.isNilS,AV.isNoRows,wk,dclo,datOf,binIs,addF,AV.isPtr,idxV,AV.isSl,AV.isSlice,AV.rows,ps,pv,extV,extS,AV.outs,AV.outF,packD,AV.dl,fieldV,fieldS,AV.cells?,AV.upr,AV.menc,AV.one,D.one,Value.oneCell',tagOf,AV.isApp,strV,strS,bolV,bolS,slcV,AV.isSlD,asrtS,AV.dcells,D.cells?,stcV,stcS,leafOk,eqDs,eqD,packA,D.val?,↓reduceIte,reduceCtorEq,Nat.reduceAdd,Nat.reduceSub,Nat.reduceMul,List.reduceReplicate,Nat.reduceLeDiff,Nat.reduceLT,Nat.reduceBEq,Nat.reduceEqDiff,Int.reduceNeg,Int.reduceEq,Int.reduceLE,Int.reduceLT,tfb,p_bnsl,nl_nil,nl_sl,nl_own,nlR_e,nlR_n,ro_n,ro_r,qd_Ro,ox_1,or_own,or_nil,upOk,gU,bu0,ctz40,O40_15,x40_66,x40_68,eq_self, hq]
      exact ⟨(k + 1, M', O), ⟨⟨hlt, hM', hst⟩, by dsimp only; omega⟩, ⟨rfl, rfl⟩, wk_ents _⟩
def ent40 (args : List AV) (K : AV → List AV → Sto → Prop) (e : List AV) (s : Sto) : Prop := ento (α := (Rul) × (Ska)) 1902 3 1 (fun aa => [aa.1.d, .agg aa.2.c]) (fun aa => VS aa.1 aa.2) (fun aa => ((valsR aa.1 aa.2 aa.2.calls.length).map ic)) args K e s
theorem ent40_ok {args : List AV} {K : AV → List AV → Sto → Prop} {Q : Kt} {e : List AV} {s : Sto} (h : ent40 args K e s) : pcall Try.prog 40 args K Q e s := ento_ok (by decide) (fun aa h => pf40 aa.1 aa.2 h) h
theorem eq40 {r : Rul} {s : Ska} {KK : AV → List AV → Sto → Prop} {ee : List AV} {ss : Sto} : ent40 [.d (r.d), .d (.agg s.c)] KK ee ss = ((VS r s) ∧ KK (.own 1902 3 1 ((valsR r s s.calls.length).map ic)) (ee.map (AV.kill 1902)) (ss.kill 1902)) := by
  unfold ent40
  exact Eq.trans (ento_iff (r, s) (by intro b h; simpa [Prod.ext_iff, and_assoc, Int.ofNat_inj, ints_inj, cals_inj, pcs_inj, skas_inj, scos_inj, ska_inj, rul_inj, sco_inj, cal_inj, ods_inj, od_inj, spns_inj, Int.ofNat_inj, ints_inj, cals_inj, pcs_inj, skas_inj, scos_inj, ska_inj, rul_inj, sco_inj, cal_inj, Int.ofNat_inj, ints_inj, cals_inj, pcs_inj, skas_inj, scos_inj, ska_inj, rul_inj, sco_inj, cal_inj, ods_inj, od_inj, spns_inj] using h) rfl) (by simp)
def O22 : Nat → Sch := fun id => .done
theorem ho22 : Try.f22.body.map (okO O22) = some true := by kernel_rfl
def Cf22 : Nat → List AV → (AV → List AV → Sto → Prop) → Kt → List AV → Sto → Prop := fun f args K Q e s => match f with
  | 37 => ent37 args K e s
  | 40 => ent40 args K e s
  | _ => False
def Ct22 : CT := { f := Cf22, y := noYld, z := fun d => false }
theorem ctz22 {d : Nat} : CT.z Ct22 d = (false) := id rfl
theorem Ct22_ok : Ct22.ok Try.prog := ok_of_f (fun f args K Q e s h => by
  have h : Cf22 f args K Q e s := h
  unfold Cf22 at h; split at h
  · exact ent37_ok h
  · exact ent40_ok h
  · exact h.elim) (fun _ _ _ _ _ _ _ _ _ h => h)
theorem x22_37 {r : Rul} {l : List Ska} {KK : AV → List AV → Sto → Prop} {QQ : Kt} {ii : At KK} {jj : At QQ} {ee : List AV} {ss : Sto} : xC Ct22 37 [.d (r.d), .d (.sl 3 (l.map Ska.c))] KK QQ ii jj ee ss = ((l.length ≤ 1000 ∧ ∀ s ∈ l, ∀ x ∈ s.calls, i64 x.place) ∧ KK (.d (.b (conOk r l))) ee ss) := eq37
theorem x22_37_m1 {r : Rul} {l : List Ska} {g1 el1 : Nat} {KK : AV → List AV → Sto → Prop} {QQ : Kt} {ii : At KK} {jj : At QQ} {ee : List AV} {ss : Sto} : xC Ct22 37 [.d (r.d), .own g1 el1 3 (l.map Ska.c)] KK QQ ii jj ee ss = ((l.length ≤ 1000 ∧ ∀ s ∈ l, ∀ x ∈ s.calls, i64 x.place) ∧ (.b (conOk r l) : D).flat = true ∧ KK (.d (.b (conOk r l))) ee ss) := eqo37
theorem x22_40 {r : Rul} {s : Ska} {KK : AV → List AV → Sto → Prop} {QQ : Kt} {ii : At KK} {jj : At QQ} {ee : List AV} {ss : Sto} : xC Ct22 40 [.d (r.d), .d (.agg s.c)] KK QQ ii jj ee ss = ((VS r s) ∧ KK (.own 1902 3 1 ((valsR r s s.calls.length).map ic)) (ee.map (AV.kill 1902)) (ss.kill 1902)) := eq40
theorem c22 : callable Try.prog 22 = true := by kernel_rfl
theorem pf22 (r : Rul) (s : Ska) (h : ∀ x ∈ s.calls, i64 x.place) : PFp Try.prog 22 3 1 [r.d, .agg s.c] (fun zz dd => zz = ((valsG r s).1.map ic) ∧ dd = (.i (valsG r s).2)) := by
  have h1 := one_i64 h
  by_cases c : conOk r (one s) = true
  · have hw : valsG r s = (valsR r s s.calls.length, 0) := by unfold valsG; rw [if_pos c]
    have hv := (vk_of c).vs
    rw [hw]
    refine PFp_start (O := O22) Ct22_ok hmix ho22 Try.func22 c22 rfl Try.ntmps22 Try.results22 ?_
    simp (maxSteps := 4000000) +contextual (disch := first | omega | exact qdb_ok (by kernel_rfl) | exact okb_ok (by kernel_rfl)) only [bw1,bw2,bw3,bw4,bw5,bw6,bw7,bc0,bc1,bc2,bc3,bc4,bc5,bc6,bc7,setPs,AV.owns,AV.datF,AV.frz,AV.cpy,ifV,isEqB,nilV,nilX,AV.isNilS,AV.isNoRows,wk,dclo,datOf,binIs,addF,AV.isPtr,idxV,AV.isSl,AV.isSlice,AV.rows,ps,pv,extV,extS,AV.outs,AV.outF,packD,AV.dl,fieldV,fieldS,AV.cells?,AV.upr,AV.menc,AV.one,D.one,Value.oneCell',tagOf,AV.isApp,strV,strS,bolV,bolS,slcV,AV.isSlD,asrtS,AV.dcells,D.cells?,stcV,stcS,leafOk,eqDs,eqD,packA,D.val?,↓reduceIte,reduceCtorEq,Nat.reduceAdd,Nat.reduceSub,Nat.reduceMul,List.reduceReplicate,Nat.reduceLeDiff,Nat.reduceLT,Nat.reduceBEq,Nat.reduceEqDiff,Int.reduceNeg,Int.reduceEq,Int.reduceLE,Int.reduceLT,tfb,p_bnsl,nl_nil,nl_sl,nl_own,nlR_e,nlR_n,ro_n,ro_r,qd_Ro,ox_1,or_own,or_nil,upOk,gU,bu0,rp_n,rp_r,qd_Rp,op_2,ctz22,x22_37,x22_37_m1,x22_40,one_rows, one_len, c, hv]
    first | exact ⟨h1, rfl, rfl⟩ | trace_state
  · have hw : valsG r s = ([], 1) := by unfold valsG; rw [if_neg c]
    rw [hw]
    refine PFp_start (O := O22) Ct22_ok hmix ho22 Try.func22 c22 rfl Try.ntmps22 Try.results22 ?_
    simp (maxSteps := 4000000) +contextual (disch := first | omega | exact qdb_ok (by kernel_rfl) | exact okb_ok (by kernel_rfl)) only [bw1,bw2,bw3,bw4,bw5,bw6,bw7,bc0,bc1,bc2,bc3,bc4,bc5,bc6,bc7,setPs,AV.owns,AV.datF,AV.frz,AV.cpy,ifV,isEqB,nilV,nilX,AV.isNilS,AV.isNoRows,wk,dclo,datOf,binIs,addF,AV.isPtr,idxV,AV.isSl,AV.isSlice,AV.rows,ps,pv,extV,extS,AV.outs,AV.outF,packD,AV.dl,fieldV,fieldS,AV.cells?,AV.upr,AV.menc,AV.one,D.one,Value.oneCell',tagOf,AV.isApp,strV,strS,bolV,bolS,slcV,AV.isSlD,asrtS,AV.dcells,D.cells?,stcV,stcS,leafOk,eqDs,eqD,packA,D.val?,↓reduceIte,reduceCtorEq,Nat.reduceAdd,Nat.reduceSub,Nat.reduceMul,List.reduceReplicate,Nat.reduceLeDiff,Nat.reduceLT,Nat.reduceBEq,Nat.reduceEqDiff,Int.reduceNeg,Int.reduceEq,Int.reduceLE,Int.reduceLT,tfb,p_bnsl,nl_nil,nl_sl,nl_own,nlR_e,nlR_n,ro_n,ro_r,qd_Ro,ox_1,or_own,or_nil,upOk,gU,bu0,rp_n,rp_r,qd_Rp,op_2,ctz22,x22_37,x22_37_m1,x22_40,one_rows, one_len, c]
    first | exact ⟨h1, rfl, rfl⟩ | trace_state
def ent22 (args : List AV) (K : AV → List AV → Sto → Prop) (e : List AV) (s : Sto) : Prop := entq (α := (Rul) × (Ska)) 1903 3 1 (fun aa => [aa.1.d, .agg aa.2.c]) (fun aa => ∀ x ∈ aa.2.calls, i64 x.place) (fun aa => ((valsG aa.1 aa.2).1.map ic)) (fun aa => (.i (valsG aa.1 aa.2).2)) args K e s
theorem ent22_ok {args : List AV} {K : AV → List AV → Sto → Prop} {Q : Kt} {e : List AV} {s : Sto} (h : ent22 args K e s) : pcall Try.prog 22 args K Q e s := entq_ok (by decide) (fun aa h => pf22 aa.1 aa.2 h) h
theorem eq22 {r : Rul} {s : Ska} {KK : AV → List AV → Sto → Prop} {ee : List AV} {ss : Sto} : ent22 [.d (r.d), .d (.agg s.c)] KK ee ss = ((∀ x ∈ s.calls, i64 x.place) ∧ KK (.tup [.own 1903 3 1 ((valsG r s).1.map ic), .d (.i (valsG r s).2)]) (ee.map (AV.kill 1903)) (ss.kill 1903)) := by
  unfold ent22
  exact Eq.trans (entq_iff (r, s) (by intro b h; simpa [Prod.ext_iff, and_assoc, Int.ofNat_inj, ints_inj, cals_inj, pcs_inj, skas_inj, scos_inj, ska_inj, rul_inj, sco_inj, cal_inj, ods_inj, od_inj, spns_inj, Int.ofNat_inj, ints_inj, cals_inj, pcs_inj, skas_inj, scos_inj, ska_inj, rul_inj, sco_inj, cal_inj, Int.ofNat_inj, ints_inj, cals_inj, pcs_inj, skas_inj, scos_inj, ska_inj, rul_inj, sco_inj, cal_inj, ods_inj, od_inj, spns_inj] using h) rfl) (by simp)
def O26 : Nat → Sch := fun id => .done
theorem ho26 : Try.f26.body.map (okO O26) = some true := by kernel_rfl
def Cf26 : Nat → List AV → (AV → List AV → Sto → Prop) → Kt → List AV → Sto → Prop := fun f args K Q e s => match f with
  | 42 => ent42 args K e s
  | 43 => ent43 args K e s
  | 44 => ent44 args K e s
  | 45 => ent45 args K e s
  | _ => False
def Ct26 : CT := { f := Cf26, y := noYld, z := fun d => false }
theorem ctz26 {d : Nat} : CT.z Ct26 d = (false) := id rfl
theorem Ct26_ok : Ct26.ok Try.prog := ok_of_f (fun f args K Q e s h => by
  have h : Cf26 f args K Q e s := h
  unfold Cf26 at h; split at h
  · exact ent42_ok h
  · exact ent43_ok h
  · exact ent44_ok h
  · exact ent45_ok h
  · exact h.elim) (fun _ _ _ _ _ _ _ _ _ h => h)
theorem x26_42 {r : Rul} {l : List Ska} {KK : AV → List AV → Sto → Prop} {QQ : Kt} {ii : At KK} {jj : At QQ} {ee : List AV} {ss : Sto} : xC Ct26 42 [.d (r.d), .d (.sl 3 (l.map Ska.c))] KK QQ ii jj ee ss = ((l.length ≤ 1000 ∧ ∀ s ∈ l, ∀ x ∈ s.calls, i64 x.place) ∧ KK (.d (.i (errG r l))) ee ss) := eq42
theorem x26_42_m1 {r : Rul} {l : List Ska} {g1 el1 : Nat} {KK : AV → List AV → Sto → Prop} {QQ : Kt} {ii : At KK} {jj : At QQ} {ee : List AV} {ss : Sto} : xC Ct26 42 [.d (r.d), .own g1 el1 3 (l.map Ska.c)] KK QQ ii jj ee ss = ((l.length ≤ 1000 ∧ ∀ s ∈ l, ∀ x ∈ s.calls, i64 x.place) ∧ (.i (errG r l) : D).flat = true ∧ KK (.d (.i (errG r l))) ee ss) := eqo42
theorem x26_43 {l : List Ska} {KK : AV → List AV → Sto → Prop} {QQ : Kt} {ii : At KK} {jj : At QQ} {ee : List AV} {ss : Sto} : xC Ct26 43 [.d (.sl 3 (l.map Ska.c))] KK QQ ii jj ee ss = ((l.length ≤ 1000) ∧ KK (.d (.tup [.i (jud l).1, .b (jud l).2])) ee ss) := eq43
theorem x26_43_m1 {l : List Ska} {g1 el1 : Nat} {KK : AV → List AV → Sto → Prop} {QQ : Kt} {ii : At KK} {jj : At QQ} {ee : List AV} {ss : Sto} : xC Ct26 43 [.own g1 el1 3 (l.map Ska.c)] KK QQ ii jj ee ss = ((l.length ≤ 1000) ∧ (.tup [.i (jud l).1, .b (jud l).2] : D).flat = true ∧ KK (.d (.tup [.i (jud l).1, .b (jud l).2])) ee ss) := eqo43
theorem x26_44 {n : Int} {lo : Int} {hi : Int} {KK : AV → List AV → Sto → Prop} {QQ : Kt} {ii : At KK} {jj : At QQ} {ee : List AV} {ss : Sto} : xC Ct26 44 [.d (.i n), .d (.i lo), .d (.i hi)] KK QQ ii jj ee ss = (KK (.d (.b (inB n lo hi))) ee ss) := eq44
theorem x26_45 {r : Rul} {l : List Ska} {j : Nat} {KK : AV → List AV → Sto → Prop} {QQ : Kt} {ii : At KK} {jj : At QQ} {ee : List AV} {ss : Sto} : xC Ct26 45 [.d (r.d), .d (.sl 3 (l.map Ska.c)), .d (.i (j : Int))] KK QQ ii jj ee ss = ((l.length ≤ 1000 ∧ ∀ s ∈ l, VG r j s) ∧ KK (.own 1901 63 2 ((swR r l j).map Spn.c)) (ee.map (AV.kill 1901)) (ss.kill 1901)) := eq45
theorem c26 : callable Try.prog 26 = true := by kernel_rfl
theorem pf26 (r : Rul) (l : List Ska) (j : Int) (h : l.length ≤ 1000 ∧ ∀ s ∈ l, ∀ x ∈ s.calls, i64 x.place) : PFp Try.prog 26 63 2 [r.d, .sl 3 (l.map Ska.c), .i j] (fun zz dd => zz = ((swG r l j).1.map Spn.c) ∧ dd = (.i (swG r l j).2)) := by
  obtain ⟨h1, h2⟩ := h
  by_cases c1 : errG r l = 0
  case neg =>
    have hw : swG r l j = ([], errG r l) := by unfold swG; rw [if_neg c1]
    have c1' : (errG r l == 0) = false := by simpa using c1
    rw [hw]
    refine PFp_start (O := O26) Ct26_ok hmix ho26 Try.func26 c26 rfl Try.ntmps26 Try.results26 ?_
    simp (maxSteps := 4000000) +contextual (disch := first | omega | exact qdb_ok (by kernel_rfl) | exact okb_ok (by kernel_rfl)) only [bw1,bw2,bw3,bw4,bw5,bw6,bw7,bc0,bc1,bc2,bc3,bc4,bc5,bc6,bc7,setPs,AV.owns,AV.datF,AV.frz,AV.cpy,ifV,isEqB,nilV,nilX,AV.isNilS,AV.isNoRows,wk,dclo,datOf,binIs,addF,AV.isPtr,idxV,AV.isSl,AV.isSlice,AV.rows,ps,pv,extV,extS,AV.outs,AV.outF,packD,AV.dl,fieldV,fieldS,AV.cells?,AV.upr,AV.menc,AV.one,D.one,Value.oneCell',tagOf,AV.isApp,strV,strS,bolV,bolS,slcV,AV.isSlD,asrtS,AV.dcells,D.cells?,stcV,stcS,leafOk,eqDs,eqD,packA,D.val?,↓reduceIte,reduceCtorEq,Nat.reduceAdd,Nat.reduceSub,Nat.reduceMul,List.reduceReplicate,Nat.reduceLeDiff,Nat.reduceLT,Nat.reduceBEq,Nat.reduceEqDiff,Int.reduceNeg,Int.reduceEq,Int.reduceLE,Int.reduceLT,tfb,p_bnsl,nl_nil,nl_sl,nl_own,nlR_e,nlR_n,ro_n,ro_r,qd_Ro,ox_1,or_own,or_nil,upOk,gU,bu0,rp_n,rp_r,qd_Rp,op_2,ctz26,x26_42,x26_42_m1,x26_43,x26_43_m1,x26_44,x26_45,c1, c1', h1]
    first | exact ⟨h2, rfl⟩ | trace_state
  obtain ⟨hco, hl40⟩ := err_ok c1
  have hjb := (con_jud hco).2
  have hjw : IntKind.i64.wrap ((jud l).1 - 1) = (jud l).1 - 1 := wrap_ok (by omega) (by omega)
  by_cases c2 : inB j 0 ((jud l).1 - 1) = true
  case neg =>
    have hw : swG r l j = ([], 2) := by unfold swG; rw [if_pos c1, if_neg c2]
    rw [hw]
    refine PFp_start (O := O26) Ct26_ok hmix ho26 Try.func26 c26 rfl Try.ntmps26 Try.results26 ?_
    simp (maxSteps := 4000000) +contextual (disch := first | omega | exact qdb_ok (by kernel_rfl) | exact okb_ok (by kernel_rfl)) only [bw1,bw2,bw3,bw4,bw5,bw6,bw7,bc0,bc1,bc2,bc3,bc4,bc5,bc6,bc7,setPs,AV.owns,AV.datF,AV.frz,AV.cpy,ifV,isEqB,nilV,nilX,AV.isNilS,AV.isNoRows,wk,dclo,datOf,binIs,addF,AV.isPtr,idxV,AV.isSl,AV.isSlice,AV.rows,ps,pv,extV,extS,AV.outs,AV.outF,packD,AV.dl,fieldV,fieldS,AV.cells?,AV.upr,AV.menc,AV.one,D.one,Value.oneCell',tagOf,AV.isApp,strV,strS,bolV,bolS,slcV,AV.isSlD,asrtS,AV.dcells,D.cells?,stcV,stcS,leafOk,eqDs,eqD,packA,D.val?,↓reduceIte,reduceCtorEq,Nat.reduceAdd,Nat.reduceSub,Nat.reduceMul,List.reduceReplicate,Nat.reduceLeDiff,Nat.reduceLT,Nat.reduceBEq,Nat.reduceEqDiff,Int.reduceNeg,Int.reduceEq,Int.reduceLE,Int.reduceLT,tfb,p_bnsl,nl_nil,nl_sl,nl_own,nlR_e,nlR_n,ro_n,ro_r,qd_Ro,ox_1,or_own,or_nil,upOk,gU,bu0,rp_n,rp_r,qd_Rp,op_2,ctz26,x26_42,x26_42_m1,x26_43,x26_43_m1,x26_44,x26_45,c1, h1, hjw, c2]
    first | exact ⟨h2, rfl⟩ | trace_state
  have hw : swG r l j = (swR r l j.toNat, 0) := by unfold swG; rw [if_pos c1, if_pos c2]
  obtain ⟨hj0, hj1⟩ := inB_iff.1 c2
  obtain ⟨j, rfl⟩ : ∃ k : Nat, j = k := ⟨j.toNat, by omega⟩
  have hvg := con_vg hco (j := j) (by omega)
  rw [hw]
  refine PFp_start (O := O26) Ct26_ok hmix ho26 Try.func26 c26 rfl Try.ntmps26 Try.results26 ?_
  simp (maxSteps := 4000000) +contextual (disch := first | omega | exact qdb_ok (by kernel_rfl) | exact okb_ok (by kernel_rfl)) only [bw1,bw2,bw3,bw4,bw5,bw6,bw7,bc0,bc1,bc2,bc3,bc4,bc5,bc6,bc7,setPs,AV.owns,AV.datF,AV.frz,AV.cpy,ifV,isEqB,nilV,nilX,AV.isNilS,AV.isNoRows,wk,dclo,datOf,binIs,addF,AV.isPtr,idxV,AV.isSl,AV.isSlice,AV.rows,ps,pv,extV,extS,AV.outs,AV.outF,packD,AV.dl,fieldV,fieldS,AV.cells?,AV.upr,AV.menc,AV.one,D.one,Value.oneCell',tagOf,AV.isApp,strV,strS,bolV,bolS,slcV,AV.isSlD,asrtS,AV.dcells,D.cells?,stcV,stcS,leafOk,eqDs,eqD,packA,D.val?,↓reduceIte,reduceCtorEq,Nat.reduceAdd,Nat.reduceSub,Nat.reduceMul,List.reduceReplicate,Nat.reduceLeDiff,Nat.reduceLT,Nat.reduceBEq,Nat.reduceEqDiff,Int.reduceNeg,Int.reduceEq,Int.reduceLE,Int.reduceLT,tfb,p_bnsl,nl_nil,nl_sl,nl_own,nlR_e,nlR_n,ro_n,ro_r,qd_Ro,ox_1,or_own,or_nil,upOk,gU,bu0,rp_n,rp_r,qd_Rp,op_2,ctz26,x26_42,x26_42_m1,x26_43,x26_43_m1,x26_44,x26_45,c1, h1, hjw, c2]
  first | exact ⟨h2, hvg, rfl⟩ | trace_state
def ent26 (args : List AV) (K : AV → List AV → Sto → Prop) (e : List AV) (s : Sto) : Prop := entq (α := (Rul) × (List Ska) × (Int)) 1904 63 2 (fun aa => [aa.1.d, .sl 3 (aa.2.1.map Ska.c), .i aa.2.2]) (fun aa => aa.2.1.length ≤ 1000 ∧ ∀ s ∈ aa.2.1, ∀ x ∈ s.calls, i64 x.place) (fun aa => ((swG aa.1 aa.2.1 aa.2.2).1.map Spn.c)) (fun aa => (.i (swG aa.1 aa.2.1 aa.2.2).2)) args K e s
theorem ent26_ok {args : List AV} {K : AV → List AV → Sto → Prop} {Q : Kt} {e : List AV} {s : Sto} (h : ent26 args K e s) : pcall Try.prog 26 args K Q e s := entq_ok (by decide) (fun aa h => pf26 aa.1 aa.2.1 aa.2.2 h) h
theorem eq26 {r : Rul} {l : List Ska} {j : Int} {KK : AV → List AV → Sto → Prop} {ee : List AV} {ss : Sto} : ent26 [.d (r.d), .d (.sl 3 (l.map Ska.c)), .d (.i j)] KK ee ss = ((l.length ≤ 1000 ∧ ∀ s ∈ l, ∀ x ∈ s.calls, i64 x.place) ∧ KK (.tup [.own 1904 63 2 ((swG r l j).1.map Spn.c), .d (.i (swG r l j).2)]) (ee.map (AV.kill 1904)) (ss.kill 1904)) := by
  unfold ent26
  exact Eq.trans (entq_iff (r, l, j) (by intro b h; simpa [Prod.ext_iff, and_assoc, Int.ofNat_inj, ints_inj, cals_inj, pcs_inj, skas_inj, scos_inj, ska_inj, rul_inj, sco_inj, cal_inj, ods_inj, od_inj, spns_inj, Int.ofNat_inj, ints_inj, cals_inj, pcs_inj, skas_inj, scos_inj, ska_inj, rul_inj, sco_inj, cal_inj, Int.ofNat_inj, ints_inj, cals_inj, pcs_inj, skas_inj, scos_inj, ska_inj, rul_inj, sco_inj, cal_inj, ods_inj, od_inj, spns_inj] using h) rfl) (by simp)
end Go.Proofs.Ytapglfcaghlpfaa.N0
