/- A part of the proof that the last text ends: what functions of the program do, told by plain data. -/
import Derived.Test.YtapglfcaghlpfaaSB
set_option linter.unusedVariables false
set_option linter.unusedSimpArgs false
namespace Go.Proofs.Ytapglfcaghlpfaa
open Go Go.E
set_option maxRecDepth 100000
set_option maxHeartbeats 8000000
def judN (l : List Ska) : Nat → Nat → Int × Bool
  | 0, _ => (0, false)
  | k + 1, i => if 0 < (l.getD i default).calls.length then ((((l.getD i default).calls.getD 0 default).marks.length : Int), true) else if 0 < (l.getD i default).parts.length then (((l.getD i default).parts.getD 0 default).length, true) else judN l k (i + 1)
def jud (l : List Ska) : Int × Bool := judN l l.length 0
def O43 : Nat → Sch := fun id => .done
theorem ho43 : Try.f43.body.map (okO O43) = some true := by kernel_rfl
def Cf43 : Nat → List AV → (AV → List AV → Sto → Prop) → Kt → List AV → Sto → Prop := fun f args K Q e s => match f with
  | _ => False
def Ct43 : CT := { f := Cf43, y := noYld, z := fun d => false }
theorem ctz43 {d : Nat} : CT.z Ct43 d = (false) := id rfl
theorem Ct43_ok : Ct43.ok Try.prog := ok_of_f (fun f args K Q e s h => by
  have h : Cf43 f args K Q e s := h
  unfold Cf43 at h; split at h
  · exact h.elim) (fun _ _ _ _ _ _ _ _ _ h => h)
theorem c43 : callable Try.prog 43 = true := by kernel_rfl
theorem pf43 (l : List Ska) (h : l.length ≤ 1000) : PF Try.prog 43 [.sl 3 (l.map Ska.c)] (fun zz => zz = .ret (.tup [.i (jud l).1, .b (jud l).2])) := by
  refine PF_nil (PF_start (O := O43) Ct43_ok hmix ho43 Try.func43 c43 rfl Try.ntmps43 Try.results43 ?_)
  simp (maxSteps := 4000000) +contextual (disch := first | omega | exact qdb_ok (by kernel_rfl) | exact okb_ok (by kernel_rfl)) only [bw1,bw2,bw3,bw4,bw5,bw6,bw7,bc0,bc1,bc2,bc3,bc4,bc5,bc6,bc7,setPs,AV.owns,AV.datF,AV.frz,AV.cpy,ifV,isEqB,nilV,nilX,AV.isNilS,AV.isNoRows,wk,dclo,datOf,binIs,addF,AV.isPtr,idxV,AV.isSl,AV.isSlice,AV.rows,ps,pv,extV,extS,AV.outs,AV.outF,packD,AV.dl,fieldV,fieldS,AV.cells?,AV.upr,AV.menc,AV.one,D.one,Value.oneCell',tagOf,AV.isApp,strV,strS,bolV,bolS,slcV,AV.isSlD,asrtS,AV.dcells,D.cells?,stcV,stcS,leafOk,eqDs,eqD,packA,D.val?,↓reduceIte,reduceCtorEq,Nat.reduceAdd,Nat.reduceSub,Nat.reduceMul,List.reduceReplicate,Nat.reduceLeDiff,Nat.reduceLT,Nat.reduceBEq,Nat.reduceEqDiff,Int.reduceNeg,Int.reduceEq,Int.reduceLE,Int.reduceLT,tfb,D.flat,D.flats,ctz43]
  refine loop_s (O := O43) (tb := 0) Ct43_ok hmix (by kernel_rfl) (σ := Nat) (fun i => [(5, .any), (8, .i i)]) (fun i => i ≤ l.length ∧ judN l (l.length - i) i = jud l) (fun i => l.length - i) (fun i => i + 1) 0 ⟨by omega, rfl⟩ ?_ ?_
  · simp (maxSteps := 4000000) +contextual (disch := first | omega | exact qdb_ok (by kernel_rfl) | exact okb_ok (by kernel_rfl)) only [bw1,bw2,bw3,bw4,bw5,bw6,bw7,bc0,bc1,bc2,bc3,bc4,bc5,bc6,bc7,setPs,AV.owns,AV.datF,AV.frz,AV.cpy,ifV,isEqB,nilV,nilX,AV.isNilS,AV.isNoRows,wk,dclo,datOf,binIs,addF,AV.isPtr,idxV,AV.isSl,AV.isSlice,AV.rows,ps,pv,extV,extS,AV.outs,AV.outF,packD,AV.dl,fieldV,fieldS,AV.cells?,AV.upr,AV.menc,AV.one,D.one,Value.oneCell',tagOf,AV.isApp,strV,strS,bolV,bolS,slcV,AV.isSlD,asrtS,AV.dcells,D.cells?,stcV,stcS,leafOk,eqDs,eqD,packA,D.val?,↓reduceIte,reduceCtorEq,Nat.reduceAdd,Nat.reduceSub,Nat.reduceMul,List.reduceReplicate,Nat.reduceLeDiff,Nat.reduceLT,Nat.reduceBEq,Nat.reduceEqDiff,Int.reduceNeg,Int.reduceEq,Int.reduceLE,Int.reduceLT,tfb,D.flat,D.flats,ctz43]
  rintro i ⟨hi, hw⟩
  by_cases hlt : i < l.length
  · have hlt' : (i : Int) < l.length := by omega
    rw [show l.length - i = (l.length - (i + 1)) + 1 by omega, judN] at hw
    by_cases c1 : 0 < (l.getD i default).calls.length
    · rw [if_pos c1] at hw
      have c1' : (0 : Int) < (l.getD i default).calls.length := by omega
      simp (maxSteps := 4000000) +contextual (disch := first | omega | exact qdb_ok (by kernel_rfl) | exact okb_ok (by kernel_rfl)) only [bw1,bw2,bw3,bw4,bw5,bw6,bw7,bc0,bc1,bc2,bc3,bc4,bc5,bc6,bc7,setPs,AV.owns,AV.datF,AV.frz,AV.cpy,ifV,isEqB,nilV,nilX,AV.isNilS,AV.isNoRows,wk,dclo,datOf,binIs,addF,AV.isPtr,idxV,AV.isSl,AV.isSlice,AV.rows,ps,pv,extV,extS,AV.outs,AV.outF,packD,AV.dl,fieldV,fieldS,AV.cells?,AV.upr,AV.menc,AV.one,D.one,Value.oneCell',tagOf,AV.isApp,strV,strS,bolV,bolS,slcV,AV.isSlD,asrtS,AV.dcells,D.cells?,stcV,stcS,leafOk,eqDs,eqD,packA,D.val?,↓reduceIte,reduceCtorEq,Nat.reduceAdd,Nat.reduceSub,Nat.reduceMul,List.reduceReplicate,Nat.reduceLeDiff,Nat.reduceLT,Nat.reduceBEq,Nat.reduceEqDiff,Int.reduceNeg,Int.reduceEq,Int.reduceLE,Int.reduceLT,tfb,D.flat,D.flats,ctz43,eq_self, hlt', c1', ← hw, Int.toNat_zero]
      omega
    · rw [if_neg c1] at hw
      have c1' : ¬ (0 : Int) < (l.getD i default).calls.length := by omega
      by_cases c2 : 0 < (l.getD i default).parts.length
      · rw [if_pos c2] at hw
        have c2' : (0 : Int) < (l.getD i default).parts.length := by omega
        simp (maxSteps := 4000000) +contextual (disch := first | omega | exact qdb_ok (by kernel_rfl) | exact okb_ok (by kernel_rfl)) only [bw1,bw2,bw3,bw4,bw5,bw6,bw7,bc0,bc1,bc2,bc3,bc4,bc5,bc6,bc7,setPs,AV.owns,AV.datF,AV.frz,AV.cpy,ifV,isEqB,nilV,nilX,AV.isNilS,AV.isNoRows,wk,dclo,datOf,binIs,addF,AV.isPtr,idxV,AV.isSl,AV.isSlice,AV.rows,ps,pv,extV,extS,AV.outs,AV.outF,packD,AV.dl,fieldV,fieldS,AV.cells?,AV.upr,AV.menc,AV.one,D.one,Value.oneCell',tagOf,AV.isApp,strV,strS,bolV,bolS,slcV,AV.isSlD,asrtS,AV.dcells,D.cells?,stcV,stcS,leafOk,eqDs,eqD,packA,D.val?,↓reduceIte,reduceCtorEq,Nat.reduceAdd,Nat.reduceSub,Nat.reduceMul,List.reduceReplicate,Nat.reduceLeDiff,Nat.reduceLT,Nat.reduceBEq,Nat.reduceEqDiff,Int.reduceNeg,Int.reduceEq,Int.reduceLE,Int.reduceLT,tfb,D.flat,D.flats,ctz43,eq_self, hlt', c1', c2', ← hw, Int.toNat_zero]
        omega
      · rw [if_neg c2] at hw
        have c2' : ¬ (0 : Int) < (l.getD i default).parts.length := by omega
        simp (maxSteps := 4000000) +contextual (disch := first | omega | exact qdb_ok (by kernel_rfl) | exact okb_ok (by kernel_rfl)) only [bw1,bw2,bw3,bw4,bw5,bw6,bw7,bc0,bc1,bc2,bc3,bc4,bc5,bc6,bc7,setPs,AV.owns,AV.datF,AV.frz,AV.cpy,ifV,isEqB,nilV,nilX,AV.isNilS,AV.isNoRows,wk,dclo,datOf,binIs,addF,AV.isPtr,idxV,AV.isSl,AV.isSlice,AV.rows,ps,pv,extV,extS,AV.outs,AV.outF,packD,AV.dl,fieldV,fieldS,AV.cells?,AV.upr,AV.menc,AV.one,D.one,Value.oneCell',tagOf,AV.isApp,strV,strS,bolV,bolS,slcV,AV.isSlD,asrtS,AV.dcells,D.cells?,stcV,stcS,leafOk,eqDs,eqD,packA,D.val?,↓reduceIte,reduceCtorEq,Nat.reduceAdd,Nat.reduceSub,Nat.reduceMul,List.reduceReplicate,Nat.reduceLeDiff,Nat.reduceLT,Nat.reduceBEq,Nat.reduceEqDiff,Int.reduceNeg,Int.reduceEq,Int.reduceLE,Int.reduceLT,tfb,D.flat,D.flats,ctz43,eq_self, hlt', c1', c2', Int.toNat_zero]
        and_intros <;> first | omega | exact hw
  · have hlt' : ¬ (i : Int) < l.length := by omega
    rw [show l.length - i = 0 by omega, judN] at hw
    simp (maxSteps := 4000000) +contextual (disch := first | omega | exact qdb_ok (by kernel_rfl) | exact okb_ok (by kernel_rfl)) only [bw1,bw2,bw3,bw4,bw5,bw6,bw7,bc0,bc1,bc2,bc3,bc4,bc5,bc6,bc7,setPs,AV.owns,AV.datF,AV.frz,AV.cpy,ifV,isEqB,nilV,nilX,AV.isNilS,AV.isNoRows,wk,dclo,datOf,binIs,addF,AV.isPtr,idxV,AV.isSl,AV.isSlice,AV.rows,ps,pv,extV,extS,AV.outs,AV.outF,packD,AV.dl,fieldV,fieldS,AV.cells?,AV.upr,AV.menc,AV.one,D.one,Value.oneCell',tagOf,AV.isApp,strV,strS,bolV,bolS,slcV,AV.isSlD,asrtS,AV.dcells,D.cells?,stcV,stcS,leafOk,eqDs,eqD,packA,D.val?,↓reduceIte,reduceCtorEq,Nat.reduceAdd,Nat.reduceSub,Nat.reduceMul,List.reduceReplicate,Nat.reduceLeDiff,Nat.reduceLT,Nat.reduceBEq,Nat.reduceEqDiff,Int.reduceNeg,Int.reduceEq,Int.reduceLE,Int.reduceLT,tfb,D.flat,D.flats,ctz43,eq_self, hlt', ← hw]
def ent43 (args : List AV) (K : AV → List AV → Sto → Prop) (e : List AV) (s : Sto) : Prop := ent (α := (List Ska)) (fun aa => [.sl 3 (aa.map Ska.c)]) (fun aa => aa.length ≤ 1000) (fun aa => .tup [.i (jud aa).1, .b (jud aa).2]) args K e s
theorem ent43_ok {args : List AV} {K : AV → List AV → Sto → Prop} {Q : Kt} {e : List AV} {s : Sto} (h : ent43 args K e s) : pcall Try.prog 43 args K Q e s := ent_ok (fun aa h => pf43 aa h) h
theorem eq43 {l : List Ska} {KK : AV → List AV → Sto → Prop} {ee : List AV} {ss : Sto} : ent43 [.d (.sl 3 (l.map Ska.c))] KK ee ss = ((l.length ≤ 1000) ∧ KK (.d (.tup [.i (jud l).1, .b (jud l).2])) ee ss) := by
  unfold ent43; rw [ent_iff l (by intro b h; simpa [Prod.ext_iff, and_assoc, Int.ofNat_inj, ints_inj, cals_inj, pcs_inj, skas_inj, scos_inj, ska_inj, rul_inj, sco_inj, cal_inj] using h) rfl]; simp
theorem eqo43 {l : List Ska} {g1 el1 : Nat} {KK : AV → List AV → Sto → Prop} {ee : List AV} {ss : Sto} : ent43 [.own g1 el1 3 (l.map Ska.c)] KK ee ss = ((l.length ≤ 1000) ∧ (.tup [.i (jud l).1, .b (jud l).2] : D).flat = true ∧ KK (.d (.tup [.i (jud l).1, .b (jud l).2])) ee ss) := by
  unfold ent43; rw [ent_iff l (by intro b h; simpa [Prod.ext_iff, and_assoc, Int.ofNat_inj, ints_inj, cals_inj, pcs_inj, skas_inj, scos_inj, ska_inj, rul_inj, sco_inj, cal_inj] using h) rfl]; simp
def O14 : Nat → Sch := fun id => .done
theorem ho14 : Try.f14.body.map (okO O14) = some true := by kernel_rfl
def Cf14 : Nat → List AV → (AV → List AV → Sto → Prop) → Kt → List AV → Sto → Prop := fun f args K Q e s => match f with
  | _ => False
def Ct14 : CT := { f := Cf14, y := noYld, z := fun d => false }
theorem ctz14 {d : Nat} : CT.z Ct14 d = (false) := id rfl
theorem Ct14_ok : Ct14.ok Try.prog := ok_of_f (fun f args K Q e s h => by
  have h : Cf14 f args K Q e s := h
  unfold Cf14 at h; split at h
  · exact h.elim) (fun _ _ _ _ _ _ _ _ _ h => h)
theorem c14 : callable Try.prog 14 = true := by kernel_rfl
theorem pf14 (l : List Ska) (h : l.length ≤ 1000) : PF Try.prog 14 [.sl 3 (l.map Ska.c)] (fun zz => zz = .ret (.i (if (jud l).2 = true then (jud l).1 else -1))) := by
  have hjj : ∀ z, jud l = z → (if (jud l).2 = true then (jud l).1 else -1) = if z.2 = true then z.1 else -1 := fun z h => by rw [h]
  generalize (if (jud l).2 = true then (jud l).1 else -1) = V at hjj ⊢
  refine PF_nil (PF_start (O := O14) Ct14_ok hmix ho14 Try.func14 c14 rfl Try.ntmps14 Try.results14 ?_)
  simp (maxSteps := 4000000) +contextual (disch := first | omega | exact qdb_ok (by kernel_rfl) | exact okb_ok (by kernel_rfl)) only [bw1,bw2,bw3,bw4,bw5,bw6,bw7,bc0,bc1,bc2,bc3,bc4,bc5,bc6,bc7,setPs,AV.owns,AV.datF,AV.frz,AV.cpy,ifV,isEqB,nilV,nilX,AV.isNilS,AV.isNoRows,wk,dclo,datOf,binIs,addF,AV.isPtr,idxV,AV.isSl,AV.isSlice,AV.rows,ps,pv,extV,extS,AV.outs,AV.outF,packD,AV.dl,fieldV,fieldS,AV.cells?,AV.upr,AV.menc,AV.one,D.one,Value.oneCell',tagOf,AV.isApp,strV,strS,bolV,bolS,slcV,AV.isSlD,asrtS,AV.dcells,D.cells?,stcV,stcS,leafOk,eqDs,eqD,packA,D.val?,↓reduceIte,reduceCtorEq,Nat.reduceAdd,Nat.reduceSub,Nat.reduceMul,List.reduceReplicate,Nat.reduceLeDiff,Nat.reduceLT,Nat.reduceBEq,Nat.reduceEqDiff,Int.reduceNeg,Int.reduceEq,Int.reduceLE,Int.reduceLT,tfb,D.flat,D.flats,ctz14]
  refine loop_s (O := O14) (tb := 0) Ct14_ok hmix (by kernel_rfl) (σ := Nat) (fun i => [(3, .i i)]) (fun i => i ≤ l.length ∧ judN l (l.length - i) i = jud l) (fun i => l.length - i) (fun i => i + 1) 0 ⟨by omega, rfl⟩ ?_ ?_
  · simp (maxSteps := 4000000) +contextual (disch := first | omega | exact qdb_ok (by kernel_rfl) | exact okb_ok (by kernel_rfl)) only [bw1,bw2,bw3,bw4,bw5,bw6,bw7,bc0,bc1,bc2,bc3,bc4,bc5,bc6,bc7,setPs,AV.owns,AV.datF,AV.frz,AV.cpy,ifV,isEqB,nilV,nilX,AV.isNilS,AV.isNoRows,wk,dclo,datOf,binIs,addF,AV.isPtr,idxV,AV.isSl,AV.isSlice,AV.rows,ps,pv,extV,extS,AV.outs,AV.outF,packD,AV.dl,fieldV,fieldS,AV.cells?,AV.upr,AV.menc,AV.one,D.one,Value.oneCell',tagOf,AV.isApp,strV,strS,bolV,bolS,slcV,AV.isSlD,asrtS,AV.dcells,D.cells?,stcV,stcS,leafOk,eqDs,eqD,packA,D.val?,↓reduceIte,reduceCtorEq,Nat.reduceAdd,Nat.reduceSub,Nat.reduceMul,List.reduceReplicate,Nat.reduceLeDiff,Nat.reduceLT,Nat.reduceBEq,Nat.reduceEqDiff,Int.reduceNeg,Int.reduceEq,Int.reduceLE,Int.reduceLT,tfb,D.flat,D.flats,ctz14]
  rintro i ⟨hi, hw⟩
  by_cases hlt : i < l.length
  · have hlt' : (i : Int) < l.length := by omega
    rw [show l.length - i = (l.length - (i + 1)) + 1 by omega, judN] at hw
    by_cases c1 : 0 < (l.getD i default).calls.length
    · rw [if_pos c1] at hw
      have hV := hjj _ hw.symm
      rw [if_pos rfl] at hV
      have c1' : (0 : Int) < (l.getD i default).calls.length := by omega
      simp (maxSteps := 4000000) +contextual (disch := first | omega | exact qdb_ok (by kernel_rfl) | exact okb_ok (by kernel_rfl)) only [bw1,bw2,bw3,bw4,bw5,bw6,bw7,bc0,bc1,bc2,bc3,bc4,bc5,bc6,bc7,setPs,AV.owns,AV.datF,AV.frz,AV.cpy,ifV,isEqB,nilV,nilX,AV.isNilS,AV.isNoRows,wk,dclo,datOf,binIs,addF,AV.isPtr,idxV,AV.isSl,AV.isSlice,AV.rows,ps,pv,extV,extS,AV.outs,AV.outF,packD,AV.dl,fieldV,fieldS,AV.cells?,AV.upr,AV.menc,AV.one,D.one,Value.oneCell',tagOf,AV.isApp,strV,strS,bolV,bolS,slcV,AV.isSlD,asrtS,AV.dcells,D.cells?,stcV,stcS,leafOk,eqDs,eqD,packA,D.val?,↓reduceIte,reduceCtorEq,Nat.reduceAdd,Nat.reduceSub,Nat.reduceMul,List.reduceReplicate,Nat.reduceLeDiff,Nat.reduceLT,Nat.reduceBEq,Nat.reduceEqDiff,Int.reduceNeg,Int.reduceEq,Int.reduceLE,Int.reduceLT,tfb,D.flat,D.flats,ctz14,eq_self, hlt', c1', hV, Int.toNat_zero]
      omega
    · rw [if_neg c1] at hw
      have c1' : ¬ (0 : Int) < (l.getD i default).calls.length := by omega
      by_cases c2 : 0 < (l.getD i default).parts.length
      · rw [if_pos c2] at hw
        have hV := hjj _ hw.symm
        rw [if_pos rfl] at hV
        have c2' : (0 : Int) < (l.getD i default).parts.length := by omega
        simp (maxSteps := 4000000) +contextual (disch := first | omega | exact qdb_ok (by kernel_rfl) | exact okb_ok (by kernel_rfl)) only [bw1,bw2,bw3,bw4,bw5,bw6,bw7,bc0,bc1,bc2,bc3,bc4,bc5,bc6,bc7,setPs,AV.owns,AV.datF,AV.frz,AV.cpy,ifV,isEqB,nilV,nilX,AV.isNilS,AV.isNoRows,wk,dclo,datOf,binIs,addF,AV.isPtr,idxV,AV.isSl,AV.isSlice,AV.rows,ps,pv,extV,extS,AV.outs,AV.outF,packD,AV.dl,fieldV,fieldS,AV.cells?,AV.upr,AV.menc,AV.one,D.one,Value.oneCell',tagOf,AV.isApp,strV,strS,bolV,bolS,slcV,AV.isSlD,asrtS,AV.dcells,D.cells?,stcV,stcS,leafOk,eqDs,eqD,packA,D.val?,↓reduceIte,reduceCtorEq,Nat.reduceAdd,Nat.reduceSub,Nat.reduceMul,List.reduceReplicate,Nat.reduceLeDiff,Nat.reduceLT,Nat.reduceBEq,Nat.reduceEqDiff,Int.reduceNeg,Int.reduceEq,Int.reduceLE,Int.reduceLT,tfb,D.flat,D.flats,ctz14,eq_self, hlt', c1', c2', hV, Int.toNat_zero]
        omega
      · rw [if_neg c2] at hw
        have c2' : ¬ (0 : Int) < (l.getD i default).parts.length := by omega
        simp (maxSteps := 4000000) +contextual (disch := first | omega | exact qdb_ok (by kernel_rfl) | exact okb_ok (by kernel_rfl)) only [bw1,bw2,bw3,bw4,bw5,bw6,bw7,bc0,bc1,bc2,bc3,bc4,bc5,bc6,bc7,setPs,AV.owns,AV.datF,AV.frz,AV.cpy,ifV,isEqB,nilV,nilX,AV.isNilS,AV.isNoRows,wk,dclo,datOf,binIs,addF,AV.isPtr,idxV,AV.isSl,AV.isSlice,AV.rows,ps,pv,extV,extS,AV.outs,AV.outF,packD,AV.dl,fieldV,fieldS,AV.cells?,AV.upr,AV.menc,AV.one,D.one,Value.oneCell',tagOf,AV.isApp,strV,strS,bolV,bolS,slcV,AV.isSlD,asrtS,AV.dcells,D.cells?,stcV,stcS,leafOk,eqDs,eqD,packA,D.val?,↓reduceIte,reduceCtorEq,Nat.reduceAdd,Nat.reduceSub,Nat.reduceMul,List.reduceReplicate,Nat.reduceLeDiff,Nat.reduceLT,Nat.reduceBEq,Nat.reduceEqDiff,Int.reduceNeg,Int.reduceEq,Int.reduceLE,Int.reduceLT,tfb,D.flat,D.flats,ctz14,eq_self, hlt', c1', c2', Int.toNat_zero]
        and_intros <;> first | omega | exact hw
  · have hlt' : ¬ (i : Int) < l.length := by omega
    rw [show l.length - i = 0 by omega, judN] at hw
    have hV := hjj _ hw.symm
    rw [if_neg (by decide)] at hV
    simp (maxSteps := 4000000) +contextual (disch := first | omega | exact qdb_ok (by kernel_rfl) | exact okb_ok (by kernel_rfl)) only [bw1,bw2,bw3,bw4,bw5,bw6,bw7,bc0,bc1,bc2,bc3,bc4,bc5,bc6,bc7,setPs,AV.owns,AV.datF,AV.frz,AV.cpy,ifV,isEqB,nilV,nilX,AV.isNilS,AV.isNoRows,wk,dclo,datOf,binIs,addF,AV.isPtr,idxV,AV.isSl,AV.isSlice,AV.rows,ps,pv,extV,extS,AV.outs,AV.outF,packD,AV.dl,fieldV,fieldS,AV.cells?,AV.upr,AV.menc,AV.one,D.one,Value.oneCell',tagOf,AV.isApp,strV,strS,bolV,bolS,slcV,AV.isSlD,asrtS,AV.dcells,D.cells?,stcV,stcS,leafOk,eqDs,eqD,packA,D.val?,↓reduceIte,reduceCtorEq,Nat.reduceAdd,Nat.reduceSub,Nat.reduceMul,List.reduceReplicate,Nat.reduceLeDiff,Nat.reduceLT,Nat.reduceBEq,Nat.reduceEqDiff,Int.reduceNeg,Int.reduceEq,Int.reduceLE,Int.reduceLT,tfb,D.flat,D.flats,ctz14,eq_self, hlt', hV]
def ent14 (args : List AV) (K : AV → List AV → Sto → Prop) (e : List AV) (s : Sto) : Prop := ent (α := (List Ska)) (fun aa => [.sl 3 (aa.map Ska.c)]) (fun aa => aa.length ≤ 1000) (fun aa => .i (if (jud aa).2 = true then (jud aa).1 else -1)) args K e s
theorem ent14_ok {args : List AV} {K : AV → List AV → Sto → Prop} {Q : Kt} {e : List AV} {s : Sto} (h : ent14 args K e s) : pcall Try.prog 14 args K Q e s := ent_ok (fun aa h => pf14 aa h) h
theorem eq14 {l : List Ska} {KK : AV → List AV → Sto → Prop} {ee : List AV} {ss : Sto} : ent14 [.d (.sl 3 (l.map Ska.c))] KK ee ss = ((l.length ≤ 1000) ∧ KK (.d (.i (if (jud l).2 = true then (jud l).1 else -1))) ee ss) := by
  unfold ent14; rw [ent_iff l (by intro b h; simpa [Prod.ext_iff, and_assoc, Int.ofNat_inj, ints_inj, cals_inj, pcs_inj, skas_inj, scos_inj, ska_inj, rul_inj, sco_inj, cal_inj] using h) rfl]; simp
theorem eqo14 {l : List Ska} {g1 el1 : Nat} {KK : AV → List AV → Sto → Prop} {ee : List AV} {ss : Sto} : ent14 [.own g1 el1 3 (l.map Ska.c)] KK ee ss = ((l.length ≤ 1000) ∧ (.i (if (jud l).2 = true then (jud l).1 else -1) : D).flat = true ∧ KK (.d (.i (if (jud l).2 = true then (jud l).1 else -1))) ee ss) := by
  unfold ent14; rw [ent_iff l (by intro b h; simpa [Prod.ext_iff, and_assoc, Int.ofNat_inj, ints_inj, cals_inj, pcs_inj, skas_inj, scos_inj, ska_inj, rul_inj, sco_inj, cal_inj] using h) rfl]; simp
end Go.Proofs.Ytapglfcaghlpfaa
