/- A part of the proof that the last text ends: what functions of the program do, told by plain data. -/
import Derived.Test.YtofbbkacihnjdaaTIi
import Derived.Test.YtofbbkacihnjdaaEc
set_option linter.unusedVariables false
set_option linter.unusedSimpArgs false
namespace Go.Proofs.Ytofbbkacihnjdaa.A6
open Go Go.E Go.Maps
set_option maxRecDepth 100000
set_option maxHeartbeats 4000000
def sp8 (args : List AV) (K : AV → List AV → Sto → Prop) (e : List AV) (s : Sto) : Prop :=
  AV.outs s args = some [.sl 4 (r06.map Zo.c), .agg (⟨20, 50⟩ : Pn).c, .agg (⟨100, 150⟩ : Pn).c, .i 3, .i 2700, .i 3350] ∧ K (.d (.tup [.agg [.i 167, .i 170], .i 0])) e s
theorem sp8_ok {args : List AV} {K : AV → List AV → Sto → Prop} {Q : Kt} {e : List AV} {s : Sto} (h : sp8 args K e s) : pcall Try.prog 8 args K Q e s := by
  obtain ⟨h2, h3⟩ := h
  exact pcall_s (pf8 r06 ⟨20, 50⟩ ⟨100, 150⟩ 3 2700 3350 (by decide)) h2 (fun d hd => by cases hd; exact ⟨rfl, by rw [wa06]; exact h3⟩) (fun c hc => by cases hc)
def sp5 (args : List AV) (K : AV → List AV → Sto → Prop) (e : List AV) (s : Sto) : Prop :=
  s.get 23 = none ∧ (s.frz 23 53 3).get 25 = none ∧ AV.pures ((args.map (AV.frzD 23 53 3)).map (AV.frzD 25 55 5)) = some [.agg t06.c] ∧ K (.d (.tup [.sl 1 [[.i 0]], .i 0])) ((e.map (AV.frz 23 53 3)).map (AV.frz 25 55 5)) ((s.frz 23 53 3).frz 25 55 5)
theorem sp5_ok {args : List AV} {K : AV → List AV → Sto → Prop} {Q : Kt} {e : List AV} {s : Sto} (h : sp5 args K e s) : pcall Try.prog 5 args K Q e s := by
  obtain ⟨h1, h2, h3, h4⟩ := h
  exact pcall_frzD 53 3 (by decide) h1 (pcall_frzD 55 5 (by decide) h2 (pcall_pure h3 (pcall_d (ds := [.agg t06.c]) (pf5 t06 (by decide)) (fun d hd => by cases hd; rw [fr06]; exact h4) (fun c hc => by cases hc))))
theorem call8a {C : CT} {args e : List AV} {s : Sto} {K : AV → List AV → Sto → Prop} {Q : Kt} {i : At K} {j : At Q} (hC : ∀ {args K Q e s} {i : At K} {j : At Q}, xC C 8 args K Q i j e s = sp8 args K e s) (h2 : AV.outs s args = some [.sl 4 (r06.map Zo.c), .agg (⟨20, 50⟩ : Pn).c, .agg (⟨100, 150⟩ : Pn).c, .i 3, .i 2700, .i 3350]) (h3 : K (.d (.tup [.agg [.i 167, .i 170], .i 0])) e s) : xC C 8 args K Q i j e s := by
  rw [hC]; exact ⟨h2, h3⟩
theorem call5a {C : CT} {args e : List AV} {s : Sto} {K : AV → List AV → Sto → Prop} {Q : Kt} {i : At K} {j : At Q} (hC : ∀ {args K Q e s} {i : At K} {j : At Q}, xC C 5 args K Q i j e s = sp5 args K e s) (h1 : s.get 23 = none) (h2 : (s.frz 23 53 3).get 25 = none) (h3 : AV.pures ((args.map (AV.frzD 23 53 3)).map (AV.frzD 25 55 5)) = some [.agg t06.c]) (h4 : K (.d (.tup [.sl 1 [[.i 0]], .i 0])) ((e.map (AV.frz 23 53 3)).map (AV.frz 25 55 5)) ((s.frz 23 53 3).frz 25 55 5)) : xC C 5 args K Q i j e s := by
  rw [hC]; exact ⟨h1, h2, h3, h4⟩
def O4 : Nat → Sch := fun id => .done
theorem ho4 : Try.f4.body.map (okO O4) = some true := by kernel_rfl
def Cf4 : Nat → List AV → (AV → List AV → Sto → Prop) → Kt → List AV → Sto → Prop := fun f args K Q e s => match f with
  | 5 => sp5 args K e s
  | 8 => sp8 args K e s
  | _ => False
def Ct4 : CT := { f := Cf4, y := noYld, z := fun d => false }
theorem ctz4 {d : Nat} : CT.z Ct4 d = (false) := id rfl
theorem Ct4_ok : Ct4.ok Try.prog := ok_of_f (fun f args K Q e s h => by
  have h : Cf4 f args K Q e s := h
  unfold Cf4 at h; split at h
  · exact sp5_ok h
  · exact sp8_ok h
  · exact h.elim) (fun _ _ _ _ _ _ _ _ _ h => h)
theorem c4 : callable Try.prog 4 = true := by kernel_rfl
theorem pf4  : PF Try.prog 4 [] (fun zz => zz = .ret (.b true)) := by
  refine PF_nil (PF_start (O := O4) Ct4_ok hmix ho4 Try.func4 c4 rfl Try.ntmps4 Try.results4 ?_)
  simp (maxSteps := 4000000) +contextual (disch := first | omega | exact qdb_ok (by kernel_rfl) | exact okb_ok (by kernel_rfl)) only [bw1,bw2,bw3,bw4,bw5,bw6,bw7,bc0,bc1,bc2,bc3,bc4,bc5,bc6,bc7,bb0,setPs,AV.owns,AV.datF,AV.frz,AV.cpy,ifV,isEqB,nilV,nilX,AV.isNilS,AV.isNoRows,wk,dclo,datOf,binIs,addF,AV.isPtr,idxV,AV.isSl,AV.isSlice,AV.rows,ps,pv,extV,extS,AV.outs,AV.outF,packD,AV.dl,fieldV,fieldS,AV.cells?,AV.upr,AV.menc,AV.one,D.one,Value.oneCell',tagOf,AV.isApp,strV,strS,bolV,bolS,slcV,AV.isSlD,asrtS,AV.dcells,D.cells?,stcV,stcS,leafOk,eqDs,eqD,packA,D.val?,↓reduceIte,reduceCtorEq,Nat.reduceAdd,Nat.reduceSub,Nat.reduceMul,List.reduceReplicate,Nat.reduceLeDiff,Nat.reduceLT,Nat.reduceBEq,Nat.reduceEqDiff,Int.reduceNeg,Int.reduceEq,Int.reduceLE,Int.reduceLT,tfb,D.flat,D.flats,ctz4]
  refine call8a (C := Ct4) (i := mk _) (j := mk _) rfl rfl ?_
  simp (maxSteps := 4000000) +contextual (disch := first | omega | exact qdb_ok (by kernel_rfl) | exact okb_ok (by kernel_rfl)) only [bw1,bw2,bw3,bw4,bw5,bw6,bw7,bc0,bc1,bc2,bc3,bc4,bc5,bc6,bc7,bb0,setPs,AV.owns,AV.datF,AV.frz,AV.cpy,ifV,isEqB,nilV,nilX,AV.isNilS,AV.isNoRows,wk,dclo,datOf,binIs,addF,AV.isPtr,idxV,AV.isSl,AV.isSlice,AV.rows,ps,pv,extV,extS,AV.outs,AV.outF,packD,AV.dl,fieldV,fieldS,AV.cells?,AV.upr,AV.menc,AV.one,D.one,Value.oneCell',tagOf,AV.isApp,strV,strS,bolV,bolS,slcV,AV.isSlD,asrtS,AV.dcells,D.cells?,stcV,stcS,leafOk,eqDs,eqD,packA,D.val?,↓reduceIte,reduceCtorEq,Nat.reduceAdd,Nat.reduceSub,Nat.reduceMul,List.reduceReplicate,Nat.reduceLeDiff,Nat.reduceLT,Nat.reduceBEq,Nat.reduceEqDiff,Int.reduceNeg,Int.reduceEq,Int.reduceLE,Int.reduceLT,tfb,D.flat,D.flats,ctz4]
  refine call5a (C := Ct4) (i := mk _) (j := mk _) rfl rfl rfl rfl ?_
  simp (maxSteps := 4000000) +contextual (disch := first | omega | exact qdb_ok (by kernel_rfl) | exact okb_ok (by kernel_rfl)) only [bw1,bw2,bw3,bw4,bw5,bw6,bw7,bc0,bc1,bc2,bc3,bc4,bc5,bc6,bc7,bb0,setPs,AV.owns,AV.datF,AV.frz,AV.cpy,ifV,isEqB,nilV,nilX,AV.isNilS,AV.isNoRows,wk,dclo,datOf,binIs,addF,AV.isPtr,idxV,AV.isSl,AV.isSlice,AV.rows,ps,pv,extV,extS,AV.outs,AV.outF,packD,AV.dl,fieldV,fieldS,AV.cells?,AV.upr,AV.menc,AV.one,D.one,Value.oneCell',tagOf,AV.isApp,strV,strS,bolV,bolS,slcV,AV.isSlD,asrtS,AV.dcells,D.cells?,stcV,stcS,leafOk,eqDs,eqD,packA,D.val?,↓reduceIte,reduceCtorEq,Nat.reduceAdd,Nat.reduceSub,Nat.reduceMul,List.reduceReplicate,Nat.reduceLeDiff,Nat.reduceLT,Nat.reduceBEq,Nat.reduceEqDiff,Int.reduceNeg,Int.reduceEq,Int.reduceLE,Int.reduceLT,tfb,D.flat,D.flats,ctz4,Sto.frz, AV.frz]
  rw [if_pos (show (0 : Int) + 1 = 1 by decide)]
  exact ⟨Nat.le_refl _, ⟨trivial, rfl⟩, fun h => h rfl⟩
end Go.Proofs.Ytofbbkacihnjdaa.A6
