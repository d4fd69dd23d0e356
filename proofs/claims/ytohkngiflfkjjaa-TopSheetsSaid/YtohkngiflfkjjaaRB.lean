/- A part of the proof that the last text ends: what functions of the program do, told by plain data. -/
import Derived.Test.YtohkngiflfkjjaaRA
set_option linter.unusedVariables false
set_option linter.unusedSimpArgs false
namespace Go.Proofs.Ytohkngiflfkjjaa
open Go Go.E
set_option maxRecDepth 100000
set_option maxHeartbeats 8000000
/-! ### Valid events -/
theorem in_zero : inB 0 0 4095 = true := by decide
theorem ev_6 {x : Ev} (k : x.kind = 6) : evOk x = (inB x.day 0 16384 && (decide (x.person = 0) && inB x.n 0 255 && shOk x.sheet)) := by unfold evOk; rw [if_pos k, k]; simp [inB]
theorem ev_0 {x : Ev} (k : x.kind = 0) : evOk x = (inB x.day 0 16384 && (inB x.person 0 4095 && decide ((x.sheet.length : Int) = 0) && inB x.n 0 255)) := by unfold evOk; rw [k]; simp [inB]
theorem ev_1 {x : Ev} (k : x.kind = 1) : evOk x = (inB x.day 0 16384 && (inB x.person 0 4095 && decide ((x.sheet.length : Int) = 0) && inB x.n 1 20)) := by unfold evOk; rw [k]; simp [inB]
theorem ev_z {x : Ev} (k : x.kind = 2 ∨ x.kind = 3 ∨ x.kind = 4 ∨ x.kind = 5) : evOk x = (inB x.day 0 16384 && (inB x.person 0 4095 && decide ((x.sheet.length : Int) = 0) && decide (x.n = 0))) := by unfold evOk; rcases k with k | k | k | k <;> rw [k] <;> simp [inB]
theorem ev_n {x : Ev} (k : ¬ x.kind = 0 ∧ ¬ x.kind = 1 ∧ ¬ x.kind = 2 ∧ ¬ x.kind = 3 ∧ ¬ x.kind = 4 ∧ ¬ x.kind = 5 ∧ ¬ x.kind = 6) : evOk x = false := by
  have : inB x.kind 0 6 = false := inB_no.2 (by omega)
  unfold evOk; rw [this]; simp
theorem kinds (k : Int) : k = 6 ∨ k = 0 ∨ k = 1 ∨ k = 2 ∨ k = 3 ∨ k = 4 ∨ k = 5 ∨ (¬ k = 0 ∧ ¬ k = 1 ∧ ¬ k = 2 ∧ ¬ k = 3 ∧ ¬ k = 4 ∧ ¬ k = 5 ∧ ¬ k = 6) := by omega
def O45 : Nat → Sch := fun id => .done
theorem ho45 : Try.f45.body.map (okO O45) = some true := by kernel_rfl
def Cf45 : Nat → List AV → (AV → List AV → Sto → Prop) → Kt → List AV → Sto → Prop := fun f args K Q e s => match f with
  | 33 => ent33 args K e s
  | 55 => ent55 args K e s
  | 56 => ent56 args K e s
  | 70 => ent70 args K e s
  | 71 => ent71 args K e s
  | _ => False
def Ct45 : CT := { f := Cf45, y := noYld, z := fun d => false }
theorem ctz45 {d : Nat} : CT.z Ct45 d = (false) := id rfl
theorem Ct45_ok : Ct45.ok Try.prog := ok_of_f (fun f args K Q e s h => by
  have h : Cf45 f args K Q e s := h
  unfold Cf45 at h; split at h
  · exact ent33_ok h
  · exact ent55_ok h
  · exact ent56_ok h
  · exact ent70_ok h
  · exact ent71_ok h
  · exact h.elim) (fun _ _ _ _ _ _ _ _ _ h => h)
theorem x45_70 {n : Int} {KK : AV → List AV → Sto → Prop} {QQ : Kt} {ii : At KK} {jj : At QQ} {ee : List AV} {ss : Sto} : xC Ct45 70 [.d (.i n)] KK QQ ii jj ee ss = (KK (.d (.b (inB n 0 4095))) ee ss) := eq70
theorem x45_33 {n : Int} {KK : AV → List AV → Sto → Prop} {QQ : Kt} {ii : At KK} {jj : At QQ} {ee : List AV} {ss : Sto} : xC Ct45 33 [.d (.i n)] KK QQ ii jj ee ss = (KK (.d (.b (inB n 0 255))) ee ss) := eq33
theorem x45_55 {n : Int} {lo : Int} {hi : Int} {KK : AV → List AV → Sto → Prop} {QQ : Kt} {ii : At KK} {jj : At QQ} {ee : List AV} {ss : Sto} : xC Ct45 55 [.d (.i n), .d (.i lo), .d (.i hi)] KK QQ ii jj ee ss = (KK (.d (.b (inB n lo hi))) ee ss) := eq55
theorem x45_56 {n : Int} {KK : AV → List AV → Sto → Prop} {QQ : Kt} {ii : At KK} {jj : At QQ} {ee : List AV} {ss : Sto} : xC Ct45 56 [.d (.i n)] KK QQ ii jj ee ss = (KK (.d (.b (inB n 0 16384))) ee ss) := eq56
theorem x45_71 {l : List Int} {KK : AV → List AV → Sto → Prop} {QQ : Kt} {ii : At KK} {jj : At QQ} {ee : List AV} {ss : Sto} : xC Ct45 71 [.d (.sl 1 (l.map ic))] KK QQ ii jj ee ss = ((l.length ≤ 100000) ∧ KK (.d (.b (shOk l))) ee ss) := eq71
theorem x45_71_m1 {l : List Int} {g1 el1 : Nat} {KK : AV → List AV → Sto → Prop} {QQ : Kt} {ii : At KK} {jj : At QQ} {ee : List AV} {ss : Sto} : xC Ct45 71 [.own g1 el1 1 (l.map ic)] KK QQ ii jj ee ss = ((l.length ≤ 100000) ∧ (.b (shOk l) : D).flat = true ∧ KK (.d (.b (shOk l))) ee ss) := eqo71
theorem c45 : callable Try.prog 45 = true := by kernel_rfl
theorem pf45 (x : Ev) (h : x.sheet.length ≤ 100000) : PF Try.prog 45 [.agg x.c] (fun zz => zz = .ret (.b (evOk x))) := by
  refine PF_nil (PF_start (O := O45) Ct45_ok hmix ho45 Try.func45 c45 rfl Try.ntmps45 Try.results45 ?_)
  rcases kinds x.kind with k | k | k | k | k | k | k | k
  · rw [ev_6 k]
    by_cases p2 : x.person = 0
    · have p1 : inB x.person 0 4095 = true := by rw [p2]; rfl
      by_cases p3 : inB x.n 0 255 = true <;> by_cases p5 : (x.sheet.length : Int) = 0
      all_goals simp (maxSteps := 4000000) +contextual (disch := first | omega | exact qdb_ok (by kernel_rfl) | exact okb_ok (by kernel_rfl)) only [bw1,bw2,bw3,bw4,bw5,bw6,bw7,bc0,bc1,bc2,bc3,bc4,bc5,bc6,bc7,bb0,setPs,AV.owns,AV.datF,AV.frz,AV.cpy,ifV,isEqB,nilV,nilX,AV.isNilS,AV.isNoRows,wk,dclo,datOf,binIs,addF,AV.isPtr,idxV,AV.isSl,AV.isSlice,AV.rows,ps,pv,extV,extS,AV.outs,AV.outF,packD,AV.dl,fieldV,fieldS,AV.cells?,AV.upr,AV.menc,AV.one,D.one,Value.oneCell',tagOf,AV.isApp,strV,strS,bolV,bolS,slcV,AV.isSlD,asrtS,AV.dcells,D.cells?,stcV,stcS,leafOk,eqDs,eqD,packA,D.val?,↓reduceIte,reduceCtorEq,Nat.reduceAdd,Nat.reduceSub,Nat.reduceMul,List.reduceReplicate,Nat.reduceLeDiff,Nat.reduceLT,Nat.reduceBEq,Nat.reduceEqDiff,Int.reduceNeg,Int.reduceEq,Int.reduceLE,Int.reduceLT,tfb,D.flat,D.flats,ctz45,x45_70,x45_33,x45_55,x45_56,x45_71,x45_71_m1,k, h, p1, p2, p3, p5, in_zero]
      all_goals simp_all
    · by_cases p1 : inB x.person 0 4095 = true <;> by_cases p5 : (x.sheet.length : Int) = 0
      all_goals simp (maxSteps := 4000000) +contextual (disch := first | omega | exact qdb_ok (by kernel_rfl) | exact okb_ok (by kernel_rfl)) only [bw1,bw2,bw3,bw4,bw5,bw6,bw7,bc0,bc1,bc2,bc3,bc4,bc5,bc6,bc7,bb0,setPs,AV.owns,AV.datF,AV.frz,AV.cpy,ifV,isEqB,nilV,nilX,AV.isNilS,AV.isNoRows,wk,dclo,datOf,binIs,addF,AV.isPtr,idxV,AV.isSl,AV.isSlice,AV.rows,ps,pv,extV,extS,AV.outs,AV.outF,packD,AV.dl,fieldV,fieldS,AV.cells?,AV.upr,AV.menc,AV.one,D.one,Value.oneCell',tagOf,AV.isApp,strV,strS,bolV,bolS,slcV,AV.isSlD,asrtS,AV.dcells,D.cells?,stcV,stcS,leafOk,eqDs,eqD,packA,D.val?,↓reduceIte,reduceCtorEq,Nat.reduceAdd,Nat.reduceSub,Nat.reduceMul,List.reduceReplicate,Nat.reduceLeDiff,Nat.reduceLT,Nat.reduceBEq,Nat.reduceEqDiff,Int.reduceNeg,Int.reduceEq,Int.reduceLE,Int.reduceLT,tfb,D.flat,D.flats,ctz45,x45_70,x45_33,x45_55,x45_56,x45_71,x45_71_m1,k, h, p1, p2, p5]
      all_goals simp_all
  · rw [ev_0 k]
    by_cases p1 : inB x.person 0 4095 = true <;> by_cases p5 : (x.sheet.length : Int) = 0 <;> by_cases q : inB x.n 0 255 = true
    all_goals simp (maxSteps := 4000000) +contextual (disch := first | omega | exact qdb_ok (by kernel_rfl) | exact okb_ok (by kernel_rfl)) only [bw1,bw2,bw3,bw4,bw5,bw6,bw7,bc0,bc1,bc2,bc3,bc4,bc5,bc6,bc7,bb0,setPs,AV.owns,AV.datF,AV.frz,AV.cpy,ifV,isEqB,nilV,nilX,AV.isNilS,AV.isNoRows,wk,dclo,datOf,binIs,addF,AV.isPtr,idxV,AV.isSl,AV.isSlice,AV.rows,ps,pv,extV,extS,AV.outs,AV.outF,packD,AV.dl,fieldV,fieldS,AV.cells?,AV.upr,AV.menc,AV.one,D.one,Value.oneCell',tagOf,AV.isApp,strV,strS,bolV,bolS,slcV,AV.isSlD,asrtS,AV.dcells,D.cells?,stcV,stcS,leafOk,eqDs,eqD,packA,D.val?,↓reduceIte,reduceCtorEq,Nat.reduceAdd,Nat.reduceSub,Nat.reduceMul,List.reduceReplicate,Nat.reduceLeDiff,Nat.reduceLT,Nat.reduceBEq,Nat.reduceEqDiff,Int.reduceNeg,Int.reduceEq,Int.reduceLE,Int.reduceLT,tfb,D.flat,D.flats,ctz45,x45_70,x45_33,x45_55,x45_56,x45_71,x45_71_m1,k, p1, p5, q]
    all_goals simp_all
  · rw [ev_1 k]
    by_cases p1 : inB x.person 0 4095 = true <;> by_cases p5 : (x.sheet.length : Int) = 0 <;> by_cases q : inB x.n 1 20 = true
    all_goals simp (maxSteps := 4000000) +contextual (disch := first | omega | exact qdb_ok (by kernel_rfl) | exact okb_ok (by kernel_rfl)) only [bw1,bw2,bw3,bw4,bw5,bw6,bw7,bc0,bc1,bc2,bc3,bc4,bc5,bc6,bc7,bb0,setPs,AV.owns,AV.datF,AV.frz,AV.cpy,ifV,isEqB,nilV,nilX,AV.isNilS,AV.isNoRows,wk,dclo,datOf,binIs,addF,AV.isPtr,idxV,AV.isSl,AV.isSlice,AV.rows,ps,pv,extV,extS,AV.outs,AV.outF,packD,AV.dl,fieldV,fieldS,AV.cells?,AV.upr,AV.menc,AV.one,D.one,Value.oneCell',tagOf,AV.isApp,strV,strS,bolV,bolS,slcV,AV.isSlD,asrtS,AV.dcells,D.cells?,stcV,stcS,leafOk,eqDs,eqD,packA,D.val?,↓reduceIte,reduceCtorEq,Nat.reduceAdd,Nat.reduceSub,Nat.reduceMul,List.reduceReplicate,Nat.reduceLeDiff,Nat.reduceLT,Nat.reduceBEq,Nat.reduceEqDiff,Int.reduceNeg,Int.reduceEq,Int.reduceLE,Int.reduceLT,tfb,D.flat,D.flats,ctz45,x45_70,x45_33,x45_55,x45_56,x45_71,x45_71_m1,k, p1, p5, q]
    all_goals simp_all
  · rw [ev_z (.inl k)]
    by_cases p1 : inB x.person 0 4095 = true <;> by_cases p5 : (x.sheet.length : Int) = 0 <;> by_cases q : x.n = 0
    all_goals simp (maxSteps := 4000000) +contextual (disch := first | omega | exact qdb_ok (by kernel_rfl) | exact okb_ok (by kernel_rfl)) only [bw1,bw2,bw3,bw4,bw5,bw6,bw7,bc0,bc1,bc2,bc3,bc4,bc5,bc6,bc7,bb0,setPs,AV.owns,AV.datF,AV.frz,AV.cpy,ifV,isEqB,nilV,nilX,AV.isNilS,AV.isNoRows,wk,dclo,datOf,binIs,addF,AV.isPtr,idxV,AV.isSl,AV.isSlice,AV.rows,ps,pv,extV,extS,AV.outs,AV.outF,packD,AV.dl,fieldV,fieldS,AV.cells?,AV.upr,AV.menc,AV.one,D.one,Value.oneCell',tagOf,AV.isApp,strV,strS,bolV,bolS,slcV,AV.isSlD,asrtS,AV.dcells,D.cells?,stcV,stcS,leafOk,eqDs,eqD,packA,D.val?,↓reduceIte,reduceCtorEq,Nat.reduceAdd,Nat.reduceSub,Nat.reduceMul,List.reduceReplicate,Nat.reduceLeDiff,Nat.reduceLT,Nat.reduceBEq,Nat.reduceEqDiff,Int.reduceNeg,Int.reduceEq,Int.reduceLE,Int.reduceLT,tfb,D.flat,D.flats,ctz45,x45_70,x45_33,x45_55,x45_56,x45_71,x45_71_m1,k, p1, p5, q]
    all_goals simp_all
  · rw [ev_z (.inr (.inl k))]
    by_cases p1 : inB x.person 0 4095 = true <;> by_cases p5 : (x.sheet.length : Int) = 0 <;> by_cases q : x.n = 0
    all_goals simp (maxSteps := 4000000) +contextual (disch := first | omega | exact qdb_ok (by kernel_rfl) | exact okb_ok (by kernel_rfl)) only [bw1,bw2,bw3,bw4,bw5,bw6,bw7,bc0,bc1,bc2,bc3,bc4,bc5,bc6,bc7,bb0,setPs,AV.owns,AV.datF,AV.frz,AV.cpy,ifV,isEqB,nilV,nilX,AV.isNilS,AV.isNoRows,wk,dclo,datOf,binIs,addF,AV.isPtr,idxV,AV.isSl,AV.isSlice,AV.rows,ps,pv,extV,extS,AV.outs,AV.outF,packD,AV.dl,fieldV,fieldS,AV.cells?,AV.upr,AV.menc,AV.one,D.one,Value.oneCell',tagOf,AV.isApp,strV,strS,bolV,bolS,slcV,AV.isSlD,asrtS,AV.dcells,D.cells?,stcV,stcS,leafOk,eqDs,eqD,packA,D.val?,↓reduceIte,reduceCtorEq,Nat.reduceAdd,Nat.reduceSub,Nat.reduceMul,List.reduceReplicate,Nat.reduceLeDiff,Nat.reduceLT,Nat.reduceBEq,Nat.reduceEqDiff,Int.reduceNeg,Int.reduceEq,Int.reduceLE,Int.reduceLT,tfb,D.flat,D.flats,ctz45,x45_70,x45_33,x45_55,x45_56,x45_71,x45_71_m1,k, p1, p5, q]
    all_goals simp_all
  · rw [ev_z (.inr (.inr (.inl k)))]
    by_cases p1 : inB x.person 0 4095 = true <;> by_cases p5 : (x.sheet.length : Int) = 0 <;> by_cases q : x.n = 0
    all_goals simp (maxSteps := 4000000) +contextual (disch := first | omega | exact qdb_ok (by kernel_rfl) | exact okb_ok (by kernel_rfl)) only [bw1,bw2,bw3,bw4,bw5,bw6,bw7,bc0,bc1,bc2,bc3,bc4,bc5,bc6,bc7,bb0,setPs,AV.owns,AV.datF,AV.frz,AV.cpy,ifV,isEqB,nilV,nilX,AV.isNilS,AV.isNoRows,wk,dclo,datOf,binIs,addF,AV.isPtr,idxV,AV.isSl,AV.isSlice,AV.rows,ps,pv,extV,extS,AV.outs,AV.outF,packD,AV.dl,fieldV,fieldS,AV.cells?,AV.upr,AV.menc,AV.one,D.one,Value.oneCell',tagOf,AV.isApp,strV,strS,bolV,bolS,slcV,AV.isSlD,asrtS,AV.dcells,D.cells?,stcV,stcS,leafOk,eqDs,eqD,packA,D.val?,↓reduceIte,reduceCtorEq,Nat.reduceAdd,Nat.reduceSub,Nat.reduceMul,List.reduceReplicate,Nat.reduceLeDiff,Nat.reduceLT,Nat.reduceBEq,Nat.reduceEqDiff,Int.reduceNeg,Int.reduceEq,Int.reduceLE,Int.reduceLT,tfb,D.flat,D.flats,ctz45,x45_70,x45_33,x45_55,x45_56,x45_71,x45_71_m1,k, p1, p5, q]
    all_goals simp_all
  · rw [ev_z (.inr (.inr (.inr k)))]
    by_cases p1 : inB x.person 0 4095 = true <;> by_cases p5 : (x.sheet.length : Int) = 0 <;> by_cases q : x.n = 0
    all_goals simp (maxSteps := 4000000) +contextual (disch := first | omega | exact qdb_ok (by kernel_rfl) | exact okb_ok (by kernel_rfl)) only [bw1,bw2,bw3,bw4,bw5,bw6,bw7,bc0,bc1,bc2,bc3,bc4,bc5,bc6,bc7,bb0,setPs,AV.owns,AV.datF,AV.frz,AV.cpy,ifV,isEqB,nilV,nilX,AV.isNilS,AV.isNoRows,wk,dclo,datOf,binIs,addF,AV.isPtr,idxV,AV.isSl,AV.isSlice,AV.rows,ps,pv,extV,extS,AV.outs,AV.outF,packD,AV.dl,fieldV,fieldS,AV.cells?,AV.upr,AV.menc,AV.one,D.one,Value.oneCell',tagOf,AV.isApp,strV,strS,bolV,bolS,slcV,AV.isSlD,asrtS,AV.dcells,D.cells?,stcV,stcS,leafOk,eqDs,eqD,packA,D.val?,↓reduceIte,reduceCtorEq,Nat.reduceAdd,Nat.reduceSub,Nat.reduceMul,List.reduceReplicate,Nat.reduceLeDiff,Nat.reduceLT,Nat.reduceBEq,Nat.reduceEqDiff,Int.reduceNeg,Int.reduceEq,Int.reduceLE,Int.reduceLT,tfb,D.flat,D.flats,ctz45,x45_70,x45_33,x45_55,x45_56,x45_71,x45_71_m1,k, p1, p5, q]
    all_goals simp_all
  · rw [ev_n k]
    obtain ⟨k0, k1, k2, k3, k4, k5, k6⟩ := k
    by_cases p1 : inB x.person 0 4095 = true <;> by_cases p5 : (x.sheet.length : Int) = 0
    all_goals simp (maxSteps := 4000000) +contextual (disch := first | omega | exact qdb_ok (by kernel_rfl) | exact okb_ok (by kernel_rfl)) only [bw1,bw2,bw3,bw4,bw5,bw6,bw7,bc0,bc1,bc2,bc3,bc4,bc5,bc6,bc7,bb0,setPs,AV.owns,AV.datF,AV.frz,AV.cpy,ifV,isEqB,nilV,nilX,AV.isNilS,AV.isNoRows,wk,dclo,datOf,binIs,addF,AV.isPtr,idxV,AV.isSl,AV.isSlice,AV.rows,ps,pv,extV,extS,AV.outs,AV.outF,packD,AV.dl,fieldV,fieldS,AV.cells?,AV.upr,AV.menc,AV.one,D.one,Value.oneCell',tagOf,AV.isApp,strV,strS,bolV,bolS,slcV,AV.isSlD,asrtS,AV.dcells,D.cells?,stcV,stcS,leafOk,eqDs,eqD,packA,D.val?,↓reduceIte,reduceCtorEq,Nat.reduceAdd,Nat.reduceSub,Nat.reduceMul,List.reduceReplicate,Nat.reduceLeDiff,Nat.reduceLT,Nat.reduceBEq,Nat.reduceEqDiff,Int.reduceNeg,Int.reduceEq,Int.reduceLE,Int.reduceLT,tfb,D.flat,D.flats,ctz45,x45_70,x45_33,x45_55,x45_56,x45_71,x45_71_m1,k0, k1, k2, k3, k4, k5, k6, p1, p5]
def ent45 (args : List AV) (K : AV → List AV → Sto → Prop) (e : List AV) (s : Sto) : Prop := ent (α := (Ev)) (fun aa => [.agg aa.c]) (fun aa => aa.sheet.length ≤ 100000) (fun aa => .b (evOk aa)) args K e s
theorem ent45_ok {args : List AV} {K : AV → List AV → Sto → Prop} {Q : Kt} {e : List AV} {s : Sto} (h : ent45 args K e s) : pcall Try.prog 45 args K Q e s := ent_ok (fun aa h => pf45 aa h) h
theorem eq45 {x : Ev} {KK : AV → List AV → Sto → Prop} {ee : List AV} {ss : Sto} : ent45 [.d (.agg x.c)] KK ee ss = ((x.sheet.length ≤ 100000) ∧ KK (.d (.b (evOk x))) ee ss) := by
  unfold ent45; rw [ent_iff x (by intro b h; simpa [Prod.ext_iff, and_assoc, Int.ofNat_inj, ints_inj, evs_inj, mems_inj, ev_inj, mem_inj] using h) rfl]; simp
end Go.Proofs.Ytohkngiflfkjjaa
