/- A part of the proof that the last text ends: what functions of the program do, told by plain data. -/
import Derived.Test.YtapglfcaghlpfaaSH
import Derived.Test.YtapglfcaghlpfaaSR
set_option linter.unusedVariables false
set_option linter.unusedSimpArgs false
namespace Go.Proofs.Ytapglfcaghlpfaa
open Go Go.E Go.Maps
set_option maxRecDepth 100000
set_option maxHeartbeats 16000000
/-! ### Round, and what is taken off -/
theorem avi {x y : Int} (h : x = y) : AV.d (D.v (Value.int .i64 x)) = AV.i y := by rw [h]
theorem off_b {f : Nat} {sec : Int} (h0 : 0 ≤ sec) (h1 : sec ≤ 100000) (hf : f ≤ 1000) : 0 ≤ off f sec ∧ off f sec ≤ 10300400 := by
  have := offN_b f
  have h2 : 0 ≤ (sec + 4) / 5 := Int.ediv_nonneg (by omega) (by omega)
  have h3 : (sec + 4) / 5 ≤ sec + 4 := Int.ediv_le_self _ (by omega)
  unfold off; omega
def O19 : Nat → Sch := fun id => .done
theorem ho19 : Try.f19.body.map (okO O19) = some true := by kernel_rfl
def Cf19 : Nat → List AV → (AV → List AV → Sto → Prop) → Kt → List AV → Sto → Prop := fun f args K Q e s => match f with
  | _ => False
def Ct19 : CT := { f := Cf19, y := noYld, z := fun d => false }
theorem ctz19 {d : Nat} : CT.z Ct19 d = (false) := id rfl
theorem Ct19_ok : Ct19.ok Try.prog := ok_of_f (fun f args K Q e s h => by
  have h : Cf19 f args K Q e s := h
  unfold Cf19 at h; split at h
  · exact h.elim) (fun _ _ _ _ _ _ _ _ _ h => h)
theorem c19 : callable Try.prog 19 = true := by kernel_rfl
theorem pf19 (falls : Nat) (sec : Int) (h : falls ≤ 1000 ∧ 0 ≤ sec ∧ sec ≤ 100000) : PF Try.prog 19 [.i (falls : Int), .i sec] (fun zz => zz = .ret (.i (off falls sec))) := by
  obtain ⟨h1, h2, h3⟩ := h
  have hb := offN_b
  have hst : ∀ i, offN (i + 1) = offN i + min 3 ((i : Int) / 2 + 1) := fun i => rfl
  have h0 : offN 0 = 0 := rfl
  have hs0 : 0 ≤ (sec + 4) / 5 := Int.ediv_nonneg (by omega) (by omega)
  have hs1 : (sec + 4) / 5 ≤ sec + 4 := Int.ediv_le_self _ (by omega)
  unfold off
  generalize offN = B at hb hst h0 ⊢
  refine PF_nil (PF_start (O := O19) Ct19_ok hmix ho19 Try.func19 c19 rfl Try.ntmps19 Try.results19 ?_)
  simp (maxSteps := 4000000) +contextual (disch := first | omega | exact qdb_ok (by kernel_rfl) | exact okb_ok (by kernel_rfl)) only [bw1,bw2,bw3,bw4,bw5,bw6,bw7,bc0,bc1,bc2,bc3,bc4,bc5,bc6,bc7,setPs,AV.owns,AV.datF,AV.frz,AV.cpy,ifV,isEqB,nilV,nilX,AV.isNilS,AV.isNoRows,wk,dclo,datOf,binIs,addF,AV.isPtr,idxV,AV.isSl,AV.isSlice,AV.rows,ps,pv,extV,extS,AV.outs,AV.outF,packD,AV.dl,fieldV,fieldS,AV.cells?,AV.upr,AV.menc,AV.one,D.one,Value.oneCell',tagOf,AV.isApp,strV,strS,bolV,bolS,slcV,AV.isSlD,asrtS,AV.dcells,D.cells?,stcV,stcS,leafOk,eqDs,eqD,packA,D.val?,↓reduceIte,reduceCtorEq,Nat.reduceAdd,Nat.reduceSub,Nat.reduceMul,List.reduceReplicate,Nat.reduceLeDiff,Nat.reduceLT,Nat.reduceBEq,Nat.reduceEqDiff,Int.reduceNeg,Int.reduceEq,Int.reduceLE,Int.reduceLT,tfb,ctz19]
  refine loop_s (O := O19) (tb := 0) Ct19_ok hmix (by kernel_rfl) (σ := Nat) (fun i => [(5, .i (100 * B i)), (6, .i ((i : Int) + 1))]) (fun i => i ≤ falls) (fun i => falls - i) (fun i => i + 1) 0 (by omega) ?_ ?_
  · simp (maxSteps := 4000000) +contextual (disch := first | omega | exact qdb_ok (by kernel_rfl) | exact okb_ok (by kernel_rfl)) only [bw1,bw2,bw3,bw4,bw5,bw6,bw7,bc0,bc1,bc2,bc3,bc4,bc5,bc6,bc7,setPs,AV.owns,AV.datF,AV.frz,AV.cpy,ifV,isEqB,nilV,nilX,AV.isNilS,AV.isNoRows,wk,dclo,datOf,binIs,addF,AV.isPtr,idxV,AV.isSl,AV.isSlice,AV.rows,ps,pv,extV,extS,AV.outs,AV.outF,packD,AV.dl,fieldV,fieldS,AV.cells?,AV.upr,AV.menc,AV.one,D.one,Value.oneCell',tagOf,AV.isApp,strV,strS,bolV,bolS,slcV,AV.isSlD,asrtS,AV.dcells,D.cells?,stcV,stcS,leafOk,eqDs,eqD,packA,D.val?,↓reduceIte,reduceCtorEq,Nat.reduceAdd,Nat.reduceSub,Nat.reduceMul,List.reduceReplicate,Nat.reduceLeDiff,Nat.reduceLT,Nat.reduceBEq,Nat.reduceEqDiff,Int.reduceNeg,Int.reduceEq,Int.reduceLE,Int.reduceLT,tfb,ctz19,h0]
    exact ⟨avi (by omega), avi (by omega)⟩
  intro i hi
  have hbi := hb i
  by_cases hlt : i < falls
  · have hlt' : (i : Int) + 1 ≤ falls := by omega
    have hsi := hst i
    have h5 : ((i : Int) + 1 + 1) / 2 = (i : Int) / 2 + 1 := by omega
    have h6 : 0 ≤ (i : Int) / 2 := Int.ediv_nonneg (by omega) (by omega)
    have h7 : (i : Int) / 2 ≤ i := Int.ediv_le_self _ (by omega)
    simp (maxSteps := 4000000) +contextual (disch := first | omega | exact qdb_ok (by kernel_rfl) | exact okb_ok (by kernel_rfl)) only [bw1,bw2,bw3,bw4,bw5,bw6,bw7,bc0,bc1,bc2,bc3,bc4,bc5,bc6,bc7,setPs,AV.owns,AV.datF,AV.frz,AV.cpy,ifV,isEqB,nilV,nilX,AV.isNilS,AV.isNoRows,wk,dclo,datOf,binIs,addF,AV.isPtr,idxV,AV.isSl,AV.isSlice,AV.rows,ps,pv,extV,extS,AV.outs,AV.outF,packD,AV.dl,fieldV,fieldS,AV.cells?,AV.upr,AV.menc,AV.one,D.one,Value.oneCell',tagOf,AV.isApp,strV,strS,bolV,bolS,slcV,AV.isSlD,asrtS,AV.dcells,D.cells?,stcV,stcS,leafOk,eqDs,eqD,packA,D.val?,↓reduceIte,reduceCtorEq,Nat.reduceAdd,Nat.reduceSub,Nat.reduceMul,List.reduceReplicate,Nat.reduceLeDiff,Nat.reduceLT,Nat.reduceBEq,Nat.reduceEqDiff,Int.reduceNeg,Int.reduceEq,Int.reduceLE,Int.reduceLT,tfb,ctz19,eq_self, hlt', hsi, h5]
    exact ⟨⟨by omega, by omega⟩, avi (by omega)⟩
  have hlt' : ¬ (i : Int) + 1 ≤ falls := by omega
  obtain rfl : i = falls := by omega
  have hcl : ∀ j : Nat, ((5 * j : Nat) : Int) < sec + 5 → True := fun _ _ => trivial
  simp (maxSteps := 4000000) +contextual (disch := first | omega | exact qdb_ok (by kernel_rfl) | exact okb_ok (by kernel_rfl)) only [bw1,bw2,bw3,bw4,bw5,bw6,bw7,bc0,bc1,bc2,bc3,bc4,bc5,bc6,bc7,setPs,AV.owns,AV.datF,AV.frz,AV.cpy,ifV,isEqB,nilV,nilX,AV.isNilS,AV.isNoRows,wk,dclo,datOf,binIs,addF,AV.isPtr,idxV,AV.isSl,AV.isSlice,AV.rows,ps,pv,extV,extS,AV.outs,AV.outF,packD,AV.dl,fieldV,fieldS,AV.cells?,AV.upr,AV.menc,AV.one,D.one,Value.oneCell',tagOf,AV.isApp,strV,strS,bolV,bolS,slcV,AV.isSlD,asrtS,AV.dcells,D.cells?,stcV,stcS,leafOk,eqDs,eqD,packA,D.val?,↓reduceIte,reduceCtorEq,Nat.reduceAdd,Nat.reduceSub,Nat.reduceMul,List.reduceReplicate,Nat.reduceLeDiff,Nat.reduceLT,Nat.reduceBEq,Nat.reduceEqDiff,Int.reduceNeg,Int.reduceEq,Int.reduceLE,Int.reduceLT,tfb,ctz19,eq_self, hlt']
  refine loop_s (O := O19) (tb := 0) Ct19_ok hmix (by kernel_rfl) (σ := Nat) (fun j => [(5, .i (100 * B i + 100 * j)), (7, .i (5 * (j : Int)))]) (fun j => 5 * (j : Int) < sec + 5) (fun j => (sec + 5 - 5 * j).toNat) (fun j => j + 1) 0 (by omega) ?_ ?_
  · simp (maxSteps := 4000000) +contextual (disch := first | omega | exact qdb_ok (by kernel_rfl) | exact okb_ok (by kernel_rfl)) only [bw1,bw2,bw3,bw4,bw5,bw6,bw7,bc0,bc1,bc2,bc3,bc4,bc5,bc6,bc7,setPs,AV.owns,AV.datF,AV.frz,AV.cpy,ifV,isEqB,nilV,nilX,AV.isNilS,AV.isNoRows,wk,dclo,datOf,binIs,addF,AV.isPtr,idxV,AV.isSl,AV.isSlice,AV.rows,ps,pv,extV,extS,AV.outs,AV.outF,packD,AV.dl,fieldV,fieldS,AV.cells?,AV.upr,AV.menc,AV.one,D.one,Value.oneCell',tagOf,AV.isApp,strV,strS,bolV,bolS,slcV,AV.isSlD,asrtS,AV.dcells,D.cells?,stcV,stcS,leafOk,eqDs,eqD,packA,D.val?,↓reduceIte,reduceCtorEq,Nat.reduceAdd,Nat.reduceSub,Nat.reduceMul,List.reduceReplicate,Nat.reduceLeDiff,Nat.reduceLT,Nat.reduceBEq,Nat.reduceEqDiff,Int.reduceNeg,Int.reduceEq,Int.reduceLE,Int.reduceLT,tfb,ctz19]
    exact ⟨avi (by omega), avi (by omega)⟩
  intro j hj
  by_cases hjt : 5 * (j : Int) < sec
  · simp (maxSteps := 4000000) +contextual (disch := first | omega | exact qdb_ok (by kernel_rfl) | exact okb_ok (by kernel_rfl)) only [bw1,bw2,bw3,bw4,bw5,bw6,bw7,bc0,bc1,bc2,bc3,bc4,bc5,bc6,bc7,setPs,AV.owns,AV.datF,AV.frz,AV.cpy,ifV,isEqB,nilV,nilX,AV.isNilS,AV.isNoRows,wk,dclo,datOf,binIs,addF,AV.isPtr,idxV,AV.isSl,AV.isSlice,AV.rows,ps,pv,extV,extS,AV.outs,AV.outF,packD,AV.dl,fieldV,fieldS,AV.cells?,AV.upr,AV.menc,AV.one,D.one,Value.oneCell',tagOf,AV.isApp,strV,strS,bolV,bolS,slcV,AV.isSlD,asrtS,AV.dcells,D.cells?,stcV,stcS,leafOk,eqDs,eqD,packA,D.val?,↓reduceIte,reduceCtorEq,Nat.reduceAdd,Nat.reduceSub,Nat.reduceMul,List.reduceReplicate,Nat.reduceLeDiff,Nat.reduceLT,Nat.reduceBEq,Nat.reduceEqDiff,Int.reduceNeg,Int.reduceEq,Int.reduceLE,Int.reduceLT,tfb,ctz19,eq_self, hjt]
    exact ⟨⟨by omega, by omega⟩, avi (by omega), avi (by omega)⟩
  have hje : (j : Int) = (sec + 4) / 5 := by omega
  simp (maxSteps := 4000000) +contextual (disch := first | omega | exact qdb_ok (by kernel_rfl) | exact okb_ok (by kernel_rfl)) only [bw1,bw2,bw3,bw4,bw5,bw6,bw7,bc0,bc1,bc2,bc3,bc4,bc5,bc6,bc7,setPs,AV.owns,AV.datF,AV.frz,AV.cpy,ifV,isEqB,nilV,nilX,AV.isNilS,AV.isNoRows,wk,dclo,datOf,binIs,addF,AV.isPtr,idxV,AV.isSl,AV.isSlice,AV.rows,ps,pv,extV,extS,AV.outs,AV.outF,packD,AV.dl,fieldV,fieldS,AV.cells?,AV.upr,AV.menc,AV.one,D.one,Value.oneCell',tagOf,AV.isApp,strV,strS,bolV,bolS,slcV,AV.isSlD,asrtS,AV.dcells,D.cells?,stcV,stcS,leafOk,eqDs,eqD,packA,D.val?,↓reduceIte,reduceCtorEq,Nat.reduceAdd,Nat.reduceSub,Nat.reduceMul,List.reduceReplicate,Nat.reduceLeDiff,Nat.reduceLT,Nat.reduceBEq,Nat.reduceEqDiff,Int.reduceNeg,Int.reduceEq,Int.reduceLE,Int.reduceLT,tfb,ctz19,eq_self, hjt]
  omega
def ent19 (args : List AV) (K : AV → List AV → Sto → Prop) (e : List AV) (s : Sto) : Prop := ent (α := (Nat) × (Int)) (fun aa => [.i (aa.1 : Int), .i aa.2]) (fun aa => aa.1 ≤ 1000 ∧ 0 ≤ aa.2 ∧ aa.2 ≤ 100000) (fun aa => .i (off aa.1 aa.2)) args K e s
theorem ent19_ok {args : List AV} {K : AV → List AV → Sto → Prop} {Q : Kt} {e : List AV} {s : Sto} (h : ent19 args K e s) : pcall Try.prog 19 args K Q e s := ent_ok (fun aa h => pf19 aa.1 aa.2 h) h
theorem eq19 {falls : Nat} {sec : Int} {KK : AV → List AV → Sto → Prop} {ee : List AV} {ss : Sto} : ent19 [.d (.i (falls : Int)), .d (.i sec)] KK ee ss = ((falls ≤ 1000 ∧ 0 ≤ sec ∧ sec ≤ 100000) ∧ KK (.d (.i (off falls sec))) ee ss) := by
  unfold ent19; rw [ent_iff (falls, sec) (by intro b h; simpa [Prod.ext_iff, and_assoc, Int.ofNat_inj, ints_inj, cals_inj, pcs_inj, skas_inj, scos_inj, ska_inj, rul_inj, sco_inj, cal_inj] using h) rfl]; simp
end Go.Proofs.Ytapglfcaghlpfaa
