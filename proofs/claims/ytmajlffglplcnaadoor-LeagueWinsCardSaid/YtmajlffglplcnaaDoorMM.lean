/- A part of the proof that the last text ends: what functions of the program do, told by plain data. -/
import Derived.Test.YtmajlffglplcnaaDoorML
set_option linter.unusedVariables false
set_option linter.unusedSimpArgs false
namespace Go.Proofs.YtmajlffglplcnaaDoor
open Go Go.E
set_option maxRecDepth 100000
set_option maxHeartbeats 16000000
def O30 : Nat → Sch := fun id => .done
theorem ho30 : Tryd.f30.body.map (okO O30) = some true := by kernel_rfl
def Cf30 : Nat → List AV → (AV → List AV → Sto → Prop) → Kt → List AV → Sto → Prop := fun f args K Q e s => match f with
  | 53 => ent53 args K e s
  | _ => False
def Ct30 : CT := { f := Cf30, y := noYld, z := fun d => false }
theorem ctz30 {d : Nat} : CT.z Ct30 d = (false) := id rfl
theorem Ct30_ok : Ct30.ok Tryd.prog := ok_of_f (fun f args K Q e s h => by
  have h : Cf30 f args K Q e s := h
  unfold Cf30 at h; split at h
  · exact ent53_ok h
  · exact h.elim) (fun _ _ _ _ _ _ _ _ _ h => h)
theorem x30_53 {n : Int} {lo : Int} {hi : Int} {KK : AV → List AV → Sto → Prop} {QQ : Kt} {ii : At KK} {jj : At QQ} {ee : List AV} {ss : Sto} : xC Ct30 53 [.d (.i n), .d (.i lo), .d (.i hi)] KK QQ ii jj ee ss = (KK (.d (.b (inB n lo hi))) ee ss) := eq53
theorem c30 : callable Tryd.prog 30 = true := by kernel_rfl
theorem pf30 (l : Lea) (t : Int) (h : l.far.length ≤ 1000) : PF Tryd.prog 30 [.ptr l.c 0, .i t] (fun zz => zz = .ret (.b (inB t 0 ((l.far.length : Int) - 1)))) := by
  have hfar := h
  refine PF_nil (PF_start (O := O30) Ct30_ok hmix ho30 Tryd.func30 c30 rfl Tryd.ntmps30 Tryd.results30 ?_)
  simp (maxSteps := 4000000) +contextual (disch := first | omega | exact qdb_ok (by kernel_rfl) | exact okb_ok (by kernel_rfl)) only [bw1,bw2,bw3,bw4,bw5,bw6,bw7,bc0,bc1,bc2,bc3,bc4,bc5,bc6,bc7,bb0,setPs,AV.owns,AV.datF,AV.frz,AV.cpy,ifV,isEqB,nilV,nilX,AV.isNilS,AV.isNoRows,wk,dclo,datOf,binIs,addF,AV.isPtr,idxV,AV.isSl,AV.isSlice,AV.rows,ps,pv,extV,extS,AV.outs,AV.outF,packD,AV.dl,fieldV,fieldS,AV.cells?,AV.upr,AV.menc,AV.one,D.one,Value.oneCell',tagOf,AV.isApp,strV,strS,bolV,bolS,slcV,AV.isSlD,asrtS,AV.dcells,D.cells?,stcV,stcS,leafOk,eqDs,eqD,packA,D.val?,↓reduceIte,reduceCtorEq,Nat.reduceAdd,Nat.reduceSub,Nat.reduceMul,List.reduceReplicate,Nat.reduceLeDiff,Nat.reduceLT,Nat.reduceBEq,Nat.reduceEqDiff,Int.reduceNeg,Int.reduceEq,Int.reduceLE,Int.reduceLT,tfb,D.flat,D.flats,ctz30,x30_53]
  try (and_intros <;> first | omega | rfl)
def ent30 (o : Option (List D)) (K : AV → List AV → Sto → Prop) (i : At K) (e : List AV) (s : Sto) : Prop := entS (α := (Lea) × (Int)) (fun aa => [.ptr aa.1.c 0, .i aa.2]) (fun aa => aa.1.far.length ≤ 1000) (fun aa => .b (inB aa.2 0 ((aa.1.far.length : Int) - 1))) o K i e s
theorem ent30_ok {args : List AV} {K : AV → List AV → Sto → Prop} {Q : Kt} {e : List AV} {s : Sto} (h : ent30 (AV.outs s args) K (mk _) e s) : pcall Tryd.prog 30 args K Q e s := entS_ok (fun aa h => pf30 aa.1 aa.2 h) h
theorem eq30 {l : Lea} {t : Int} {KK : AV → List AV → Sto → Prop} {ii : At KK} {ee : List AV} {ss : Sto} : ent30 (some [.ptr l.c 0, .i t]) KK ii ee ss = ((l.far.length ≤ 1000) ∧ (.b (inB t 0 ((l.far.length : Int) - 1)) : D).flat = true ∧ KK (.d (.b (inB t 0 ((l.far.length : Int) - 1)))) ee ss) := by
  unfold ent30; rw [entS_iff (l, t) (by intro b h; simpa [Prod.ext_iff, and_assoc, Int.ofNat_inj, ints_inj, gams_inj, fars_inj, gam_inj, lea_inj, Int.ofNat_inj, ints_inj, gams_inj, fars_inj, gam_inj, lea_inj, stds_inj, std_inj, Int.ofNat_inj, ints_inj, gams_inj, fars_inj, gam_inj, lea_inj] using h)] <;> simp
def O31 : Nat → Sch := fun id => .done
theorem ho31 : Tryd.f31.body.map (okO O31) = some true := by kernel_rfl
def Cf31 : Nat → List AV → (AV → List AV → Sto → Prop) → Kt → List AV → Sto → Prop := fun f args K Q e s => match f with
  | _ => False
def Ct31 : CT := { f := Cf31, y := noYld, z := fun d => false }
theorem ctz31 {d : Nat} : CT.z Ct31 d = (false) := id rfl
theorem Ct31_ok : Ct31.ok Tryd.prog := ok_of_f (fun f args K Q e s h => by
  have h : Cf31 f args K Q e s := h
  unfold Cf31 at h; split at h
  · exact h.elim) (fun _ _ _ _ _ _ _ _ _ h => h)
theorem c31 : callable Tryd.prog 31 = true := by kernel_rfl
def O58 : Nat → Sch := fun id => .done
theorem ho58 : Tryd.f58.body.map (okO O58) = some true := by kernel_rfl
def Cf58 : Nat → List AV → (AV → List AV → Sto → Prop) → Kt → List AV → Sto → Prop := fun f args K Q e s => match f with
  | 29 => ent29 args K e s
  | _ => False
def Ct58 : CT := { f := Cf58, y := noYld, z := fun d => false }
theorem ctz58 {d : Nat} : CT.z Ct58 d = (false) := id rfl
theorem Ct58_ok : Ct58.ok Tryd.prog := ok_of_f (fun f args K Q e s h => by
  have h : Cf58 f args K Q e s := h
  unfold Cf58 at h; split at h
  · exact ent29_ok h
  · exact h.elim) (fun _ _ _ _ _ _ _ _ _ h => h)
theorem x58_29 {g : Gam} {t : Int} {KK : AV → List AV → Sto → Prop} {QQ : Kt} {ii : At KK} {jj : At QQ} {ee : List AV} {ss : Sto} : xC Ct58 29 [.d (.agg g.c), .d (.i t)] KK QQ ii jj ee ss = (KK (.d (.b (hasB g t))) ee ss) := eq29
theorem c58 : callable Tryd.prog 58 = true := by kernel_rfl
def O13 : Nat → Sch := fun id => if id = 8 then .one 0 (.one 1 (.one 2 (.one 3 (.one 4 (.one 5 (.one 6 (.one 7 (.one 8 (.one 9 (.one 10 (.one 11 (.done)))))))))))) else if id = 10 then .one 0 (.one 1 (.one 2 (.one 3 (.one 4 (.one 5 (.one 6 (.one 7 (.one 8 (.one 9 (.one 10 (.one 11 (.done)))))))))))) else .done
theorem O13_8 : O13 8 = .one 0 (.one 1 (.one 2 (.one 3 (.one 4 (.one 5 (.one 6 (.one 7 (.one 8 (.one 9 (.one 10 (.one 11 (.done)))))))))))) := rfl
theorem O13_10 : O13 10 = .one 0 (.one 1 (.one 2 (.one 3 (.one 4 (.one 5 (.one 6 (.one 7 (.one 8 (.one 9 (.one 10 (.one 11 (.done)))))))))))) := rfl
theorem ho13 : Tryd.f13.body.map (okO O13) = some true := by kernel_rfl
def Cf13o : Nat → List AV → (AV → List AV → Sto → Prop) → Kt → List AV → Sto → Prop := fun f args K Q e s => match f with
  | 28 => ent28 args K e s
  | 30 => ent30 (AV.outs s args) K (mk _) e s
  | 31 => inlE Tryd.prog Ct31 O31 31000 31 args K Q e s
  | _ => False
def Ct13o : CT := { f := Cf13o, y := noYld, z := fun d => false }
theorem ctz13o {d : Nat} : CT.z Ct13o d = (false) := id rfl
theorem Ct13o_ok : Ct13o.ok Tryd.prog := ok_of_f (fun f args K Q e s h => by
  have h : Cf13o f args K Q e s := h
  unfold Cf13o at h; split at h
  · exact ent28_ok h
  · exact ent30_ok h
  · exact inlE_ok Ct31_ok hmix ho31 h
  · exact h.elim) (fun _ _ _ _ _ _ _ _ _ h => h)
def Yd13 : Nat → List Nat → Code → Code → List AV → (AV → List AV → Sto → Prop) → Kt → List AV → Sto → Prop := fun G ps asg bdy => if G / 1000 = 1000000 then yldE Tryd.prog Ct13o O13 0 G ps asg bdy else fun _ _ _ _ _ => False
def Cy13_58 : CT := { f := Cf58, y := Yd13 }
theorem ctzy13_58 {d : Nat} : CT.z Cy13_58 d = false := id rfl
theorem Cy13_58_ok : Cy13_58.ok Tryd.prog := ⟨Ct58_ok.f, fun g ps asg bdy args K Q e s h => by
  have h : Yd13 g ps asg bdy args K Q e s := h
  unfold Yd13 at h; split at h
  · exact yldE_ok Ct13o_ok hmix h
  · exact h.elim⟩
def Cf13 : Nat → List AV → (AV → List AV → Sto → Prop) → Kt → List AV → Sto → Prop := fun f args K Q e s => match f with
  | 28 => ent28 args K e s
  | 30 => ent30 (AV.outs s args) K (mk _) e s
  | 31 => inlE Tryd.prog Ct31 O31 31000 31 args K Q e s
  | 58 => inlE Tryd.prog Cy13_58 O58 58000 58 args K Q e s
  | _ => False
def Ct13 : CT := { f := Cf13, y := noYld, z := fun d => false }
theorem ctz13 {d : Nat} : CT.z Ct13 d = (false) := id rfl
theorem Ct13_ok : Ct13.ok Tryd.prog := ok_of_f (fun f args K Q e s h => by
  have h : Cf13 f args K Q e s := h
  unfold Cf13 at h; split at h
  · exact ent28_ok h
  · exact ent30_ok h
  · exact inlE_ok Ct31_ok hmix ho31 h
  · exact inlE_ok Cy13_58_ok hmix ho58 h
  · exact h.elim) (fun _ _ _ _ _ _ _ _ _ h => h)
theorem z13_58 : type_of% (@xinl Tryd.prog Ct13 Cy13_58 O58 58000 58 _ _ _ _ rfl c58 Tryd.func58 rfl Tryd.ntmps58 Tryd.results58) := @xinl Tryd.prog Ct13 Cy13_58 O58 58000 58 _ _ _ _ rfl c58 Tryd.func58 rfl Tryd.ntmps58 Tryd.results58
theorem cy13_58 {n : Nat} {args : List AV} {K : AV → List AV → Sto → Prop} {Q : Kt} {i : At K} {j : At Q} {e : List AV} {s : Sto} : xC Cy13_58 n args K Q i j e s = xC Ct58 n args K Q i j e s := id rfl
theorem yy13_58_21 : type_of% (fun ps asg bdy => @xyld Tryd.prog Cy13_58 Ct13o O13 0 1000000021 Yd13 rfl ps asg bdy (if_pos (by omega))) := fun ps asg bdy => @xyld Tryd.prog Cy13_58 Ct13o O13 0 1000000021 Yd13 rfl ps asg bdy (if_pos (by omega))
theorem yy13_58_22 : type_of% (fun ps asg bdy => @xyld Tryd.prog Cy13_58 Ct13o O13 0 1000000022 Yd13 rfl ps asg bdy (if_pos (by omega))) := fun ps asg bdy => @xyld Tryd.prog Cy13_58 Ct13o O13 0 1000000022 Yd13 rfl ps asg bdy (if_pos (by omega))
theorem x13_28 {l : Lea} {KK : AV → List AV → Sto → Prop} {QQ : Kt} {ii : At KK} {jj : At QQ} {ee : List AV} {ss : Sto} : xC Ct13 28 [.d (.agg l.c)] KK QQ ii jj ee ss = ((l.far.length ≤ 1000) ∧ KK (.d (.b (leaOk l))) ee ss) := eq28
theorem x13_30 {args : List AV} {KK : AV → List AV → Sto → Prop} {QQ : Kt} {ii : At KK} {jj : At QQ} {ee : List AV} {ss : Sto} : xC Ct13 30 args KK QQ ii jj ee ss = ent30 (AV.outs ss args) KK (mk _) ee ss := id rfl
theorem z13_31 : type_of% (@xinl Tryd.prog Ct13 Ct31 O31 31000 31 _ _ _ _ rfl c31 Tryd.func31 rfl Tryd.ntmps31 Tryd.results31) := @xinl Tryd.prog Ct13 Ct31 O31 31000 31 _ _ _ _ rfl c31 Tryd.func31 rfl Tryd.ntmps31 Tryd.results31
theorem x13o_28 {l : Lea} {KK : AV → List AV → Sto → Prop} {QQ : Kt} {ii : At KK} {jj : At QQ} {ee : List AV} {ss : Sto} : xC Ct13o 28 [.d (.agg l.c)] KK QQ ii jj ee ss = ((l.far.length ≤ 1000) ∧ KK (.d (.b (leaOk l))) ee ss) := eq28
theorem x13o_30 {args : List AV} {KK : AV → List AV → Sto → Prop} {QQ : Kt} {ii : At KK} {jj : At QQ} {ee : List AV} {ss : Sto} : xC Ct13o 30 args KK QQ ii jj ee ss = ent30 (AV.outs ss args) KK (mk _) ee ss := id rfl
theorem z13o_31 : type_of% (@xinl Tryd.prog Ct13o Ct31 O31 31000 31 _ _ _ _ rfl c31 Tryd.func31 rfl Tryd.ntmps31 Tryd.results31) := @xinl Tryd.prog Ct13o Ct31 O31 31000 31 _ _ _ _ rfl c31 Tryd.func31 rfl Tryd.ntmps31 Tryd.results31
theorem c13 : callable Tryd.prog 13 = true := by kernel_rfl
theorem pf13 (l : Lea) (t : Int) (h : l.far.length ≤ 1000) : PF Tryd.prog 13 [.agg l.c, .i t] (fun zz => zz = .ret (.tup [.i (trR l t).1, .i (trR l t).2])) := by
  have hfar := h
  unfold trR
  by_cases c0 : leaOk l = true
  case neg =>
    rw [if_neg c0]
    refine PF_nil (PF_start (O := O13) Ct13_ok hmix ho13 Tryd.func13 c13 rfl Tryd.ntmps13 Tryd.results13 ?_)
    simp (maxSteps := 4000000) +contextual (disch := first | omega | exact qdb_ok (by kernel_rfl) | exact okb_ok (by kernel_rfl)) only [bw1,bw2,bw3,bw4,bw5,bw6,bw7,bc0,bc1,bc2,bc3,bc4,bc5,bc6,bc7,bb0,setPs,AV.owns,AV.datF,AV.frz,AV.cpy,ifV,isEqB,nilV,nilX,AV.isNilS,AV.isNoRows,wk,dclo,datOf,binIs,addF,AV.isPtr,idxV,AV.isSl,AV.isSlice,AV.rows,ps,pv,extV,extS,AV.outs,AV.outF,packD,AV.dl,fieldV,fieldS,AV.cells?,AV.upr,AV.menc,AV.one,D.one,Value.oneCell',tagOf,AV.isApp,strV,strS,bolV,bolS,slcV,AV.isSlD,asrtS,AV.dcells,D.cells?,stcV,stcS,leafOk,eqDs,eqD,packA,D.val?,↓reduceIte,reduceCtorEq,Nat.reduceAdd,Nat.reduceSub,Nat.reduceMul,List.reduceReplicate,Nat.reduceLeDiff,Nat.reduceLT,Nat.reduceBEq,Nat.reduceEqDiff,Int.reduceNeg,Int.reduceEq,Int.reduceLE,Int.reduceLT,tfb,D.flat,D.flats,ctz13,O13_8,O13_10,x13_28,x13_30,eq30,z13_31,ctz31,x13o_28,x13o_30,z13o_31,z13_58,cy13_58,ctzy13_58,ctz13o,yy13_58_21,yy13_58_22,ctz58,x58_29,c0, hfar]
  rw [if_pos c0]
  have h64 := lea_games c0
  by_cases c1 : inB t 0 ((l.far.length : Int) - 1) = true
  case neg =>
    rw [if_neg c1]
    refine PF_nil (PF_start (O := O13) Ct13_ok hmix ho13 Tryd.func13 c13 rfl Tryd.ntmps13 Tryd.results13 ?_)
    simp (maxSteps := 4000000) +contextual (disch := first | omega | exact qdb_ok (by kernel_rfl) | exact okb_ok (by kernel_rfl)) only [bw1,bw2,bw3,bw4,bw5,bw6,bw7,bc0,bc1,bc2,bc3,bc4,bc5,bc6,bc7,bb0,setPs,AV.owns,AV.datF,AV.frz,AV.cpy,ifV,isEqB,nilV,nilX,AV.isNilS,AV.isNoRows,wk,dclo,datOf,binIs,addF,AV.isPtr,idxV,AV.isSl,AV.isSlice,AV.rows,ps,pv,extV,extS,AV.outs,AV.outF,packD,AV.dl,fieldV,fieldS,AV.cells?,AV.upr,AV.menc,AV.one,D.one,Value.oneCell',tagOf,AV.isApp,strV,strS,bolV,bolS,slcV,AV.isSlD,asrtS,AV.dcells,D.cells?,stcV,stcS,leafOk,eqDs,eqD,packA,D.val?,↓reduceIte,reduceCtorEq,Nat.reduceAdd,Nat.reduceSub,Nat.reduceMul,List.reduceReplicate,Nat.reduceLeDiff,Nat.reduceLT,Nat.reduceBEq,Nat.reduceEqDiff,Int.reduceNeg,Int.reduceEq,Int.reduceLE,Int.reduceLT,tfb,D.flat,D.flats,ctz13,O13_8,O13_10,x13_28,x13_30,eq30,z13_31,ctz31,x13o_28,x13o_30,z13o_31,z13_58,cy13_58,ctzy13_58,ctz13o,yy13_58_21,yy13_58_22,ctz58,x58_29,c0, c1, hfar]
  rw [if_pos c1]
  have ht := inB_iff.1 c1
  have ht' : 0 ≤ t ∧ t < l.far.length := by omega
  refine PF_nil (PF_start (O := O13) Ct13_ok hmix ho13 Tryd.func13 c13 rfl Tryd.ntmps13 Tryd.results13 ?_)
  simp (maxSteps := 4000000) +contextual (disch := first | omega | exact qdb_ok (by kernel_rfl) | exact okb_ok (by kernel_rfl)) only [bw1,bw2,bw3,bw4,bw5,bw6,bw7,bc0,bc1,bc2,bc3,bc4,bc5,bc6,bc7,bb0,setPs,AV.owns,AV.datF,AV.frz,AV.cpy,ifV,isEqB,nilV,nilX,AV.isNilS,AV.isNoRows,wk,dclo,datOf,binIs,addF,AV.isPtr,idxV,AV.isSl,AV.isSlice,AV.rows,ps,pv,extV,extS,AV.outs,AV.outF,packD,AV.dl,fieldV,fieldS,AV.cells?,AV.upr,AV.menc,AV.one,D.one,Value.oneCell',tagOf,AV.isApp,strV,strS,bolV,bolS,slcV,AV.isSlD,asrtS,AV.dcells,D.cells?,stcV,stcS,leafOk,eqDs,eqD,packA,D.val?,↓reduceIte,reduceCtorEq,Nat.reduceAdd,Nat.reduceSub,Nat.reduceMul,List.reduceReplicate,Nat.reduceLeDiff,Nat.reduceLT,Nat.reduceBEq,Nat.reduceEqDiff,Int.reduceNeg,Int.reduceEq,Int.reduceLE,Int.reduceLT,tfb,D.flat,D.flats,ctz13,O13_8,O13_10,x13_28,x13_30,eq30,z13_31,ctz31,x13o_28,x13o_30,z13o_31,z13_58,cy13_58,ctzy13_58,ctz13o,yy13_58_21,yy13_58_22,ctz58,x58_29,c0, c1, hfar]
  refine rng_cut (C := Ct13) Ct13_ok 1000000021 [] [(7, [.i (trN l t l.games.length).1]), (8, [.i (trN l t l.games.length).2])] ?_ ?_
  · simp (maxSteps := 4000000) +contextual (disch := first | omega | exact qdb_ok (by kernel_rfl) | exact okb_ok (by kernel_rfl)) only [bw1,bw2,bw3,bw4,bw5,bw6,bw7,bc0,bc1,bc2,bc3,bc4,bc5,bc6,bc7,bb0,setPs,AV.owns,AV.datF,AV.frz,AV.cpy,ifV,isEqB,nilV,nilX,AV.isNilS,AV.isNoRows,wk,dclo,datOf,binIs,addF,AV.isPtr,idxV,AV.isSl,AV.isSlice,AV.rows,ps,pv,extV,extS,AV.outs,AV.outF,packD,AV.dl,fieldV,fieldS,AV.cells?,AV.upr,AV.menc,AV.one,D.one,Value.oneCell',tagOf,AV.isApp,strV,strS,bolV,bolS,slcV,AV.isSlD,asrtS,AV.dcells,D.cells?,stcV,stcS,leafOk,eqDs,eqD,packA,D.val?,↓reduceIte,reduceCtorEq,Nat.reduceAdd,Nat.reduceSub,Nat.reduceMul,List.reduceReplicate,Nat.reduceLeDiff,Nat.reduceLT,Nat.reduceBEq,Nat.reduceEqDiff,Int.reduceNeg,Int.reduceEq,Int.reduceLE,Int.reduceLT,tfb,D.flat,D.flats,ctz13,O13_8,O13_10,x13_28,x13_30,eq30,z13_31,ctz31,x13o_28,x13o_30,z13o_31,z13_58,cy13_58,ctzy13_58,ctz13o,yy13_58_21,yy13_58_22,ctz58,x58_29,eq_self]
    refine loop_xu (O := O58) (tb := 58000) Cy13_58_ok hmix (by kernel_rfl) (σ := Nat) (fun k => [(11, .i k)]) (fun k => [(7, [.i (trN l t k).1]), (8, [.i (trN l t k).2])]) (fun k => k ≤ l.games.length) (fun k => l.games.length - k) 0 (Nat.zero_le _) ?_ ?_
    · have hz : trN l t 0 = (0, t) := trN_zero
      simp (maxSteps := 4000000) +contextual (disch := first | omega | exact qdb_ok (by kernel_rfl) | exact okb_ok (by kernel_rfl)) only [bw1,bw2,bw3,bw4,bw5,bw6,bw7,bc0,bc1,bc2,bc3,bc4,bc5,bc6,bc7,bb0,setPs,AV.owns,AV.datF,AV.frz,AV.cpy,ifV,isEqB,nilV,nilX,AV.isNilS,AV.isNoRows,wk,dclo,datOf,binIs,addF,AV.isPtr,idxV,AV.isSl,AV.isSlice,AV.rows,ps,pv,extV,extS,AV.outs,AV.outF,packD,AV.dl,fieldV,fieldS,AV.cells?,AV.upr,AV.menc,AV.one,D.one,Value.oneCell',tagOf,AV.isApp,strV,strS,bolV,bolS,slcV,AV.isSlD,asrtS,AV.dcells,D.cells?,stcV,stcS,leafOk,eqDs,eqD,packA,D.val?,↓reduceIte,reduceCtorEq,Nat.reduceAdd,Nat.reduceSub,Nat.reduceMul,List.reduceReplicate,Nat.reduceLeDiff,Nat.reduceLT,Nat.reduceBEq,Nat.reduceEqDiff,Int.reduceNeg,Int.reduceEq,Int.reduceLE,Int.reduceLT,tfb,D.flat,D.flats,ctz13,O13_8,O13_10,x13_28,x13_30,eq30,z13_31,ctz31,x13o_28,x13o_30,z13o_31,z13_58,cy13_58,ctzy13_58,ctz13o,yy13_58_21,yy13_58_22,ctz58,x58_29,eq_self, hz]
      try rfl
    rintro k hk
    have hb := trN_b c0 ht' k hk
    by_cases hlt : k < l.games.length
    case neg =>
      obtain rfl : k = l.games.length := by omega
      simp (maxSteps := 4000000) +contextual (disch := first | omega | exact qdb_ok (by kernel_rfl) | exact okb_ok (by kernel_rfl)) only [bw1,bw2,bw3,bw4,bw5,bw6,bw7,bc0,bc1,bc2,bc3,bc4,bc5,bc6,bc7,bb0,setPs,AV.owns,AV.datF,AV.frz,AV.cpy,ifV,isEqB,nilV,nilX,AV.isNilS,AV.isNoRows,wk,dclo,datOf,binIs,addF,AV.isPtr,idxV,AV.isSl,AV.isSlice,AV.rows,ps,pv,extV,extS,AV.outs,AV.outF,packD,AV.dl,fieldV,fieldS,AV.cells?,AV.upr,AV.menc,AV.one,D.one,Value.oneCell',tagOf,AV.isApp,strV,strS,bolV,bolS,slcV,AV.isSlD,asrtS,AV.dcells,D.cells?,stcV,stcS,leafOk,eqDs,eqD,packA,D.val?,↓reduceIte,reduceCtorEq,Nat.reduceAdd,Nat.reduceSub,Nat.reduceMul,List.reduceReplicate,Nat.reduceLeDiff,Nat.reduceLT,Nat.reduceBEq,Nat.reduceEqDiff,Int.reduceNeg,Int.reduceEq,Int.reduceLE,Int.reduceLT,tfb,D.flat,D.flats,ctz13,O13_8,O13_10,x13_28,x13_30,eq30,z13_31,ctz31,x13o_28,x13o_30,z13o_31,z13_58,cy13_58,ctzy13_58,ctz13o,yy13_58_21,yy13_58_22,ctz58,x58_29,eq_self, Int.lt_irrefl]
    have hlt' : (k : Int) < l.games.length := by omega
    have hs := trN_succ (t := t) hlt
    have hg := gm_teams (lea_gm c0 hlt)
    have hf := fr_b c0 hb.2 (b := (l.games.getD k default).home) (by omega)
    have hl2 : (trN l t k).2 < l.far.length := hb.2.2
    have hl3 : (l.games.getD k default).home < ((l.far.getD (trN l t k).2.toNat default).length : Int) := by omega
    unfold trG at hs
    by_cases d1 : hasB (l.games.getD k default) t = true
    case neg =>
      rw [if_neg d1] at hs
      simp (maxSteps := 4000000) +contextual (disch := first | omega | exact qdb_ok (by kernel_rfl) | exact okb_ok (by kernel_rfl)) only [bw1,bw2,bw3,bw4,bw5,bw6,bw7,bc0,bc1,bc2,bc3,bc4,bc5,bc6,bc7,bb0,setPs,AV.owns,AV.datF,AV.frz,AV.cpy,ifV,isEqB,nilV,nilX,AV.isNilS,AV.isNoRows,wk,dclo,datOf,binIs,addF,AV.isPtr,idxV,AV.isSl,AV.isSlice,AV.rows,ps,pv,extV,extS,AV.outs,AV.outF,packD,AV.dl,fieldV,fieldS,AV.cells?,AV.upr,AV.menc,AV.one,D.one,Value.oneCell',tagOf,AV.isApp,strV,strS,bolV,bolS,slcV,AV.isSlD,asrtS,AV.dcells,D.cells?,stcV,stcS,leafOk,eqDs,eqD,packA,D.val?,↓reduceIte,reduceCtorEq,Nat.reduceAdd,Nat.reduceSub,Nat.reduceMul,List.reduceReplicate,Nat.reduceLeDiff,Nat.reduceLT,Nat.reduceBEq,Nat.reduceEqDiff,Int.reduceNeg,Int.reduceEq,Int.reduceLE,Int.reduceLT,tfb,D.flat,D.flats,ctz13,O13_8,O13_10,x13_28,x13_30,eq30,z13_31,ctz31,x13o_28,x13o_30,z13o_31,z13_58,cy13_58,ctzy13_58,ctz13o,yy13_58_21,yy13_58_22,ctz58,x58_29,eq_self, hlt', d1]
      repeat (refine And.intro (by omega) ?_)
      exact ⟨k + 1, ⟨by omega, by omega⟩, rfl, by rw [hs], by rw [hs]⟩
    rw [if_pos d1] at hs
    unfold fr at hs hf
    simp (maxSteps := 4000000) +contextual (disch := first | omega | exact qdb_ok (by kernel_rfl) | exact okb_ok (by kernel_rfl)) only [bw1,bw2,bw3,bw4,bw5,bw6,bw7,bc0,bc1,bc2,bc3,bc4,bc5,bc6,bc7,bb0,setPs,AV.owns,AV.datF,AV.frz,AV.cpy,ifV,isEqB,nilV,nilX,AV.isNilS,AV.isNoRows,wk,dclo,datOf,binIs,addF,AV.isPtr,idxV,AV.isSl,AV.isSlice,AV.rows,ps,pv,extV,extS,AV.outs,AV.outF,packD,AV.dl,fieldV,fieldS,AV.cells?,AV.upr,AV.menc,AV.one,D.one,Value.oneCell',tagOf,AV.isApp,strV,strS,bolV,bolS,slcV,AV.isSlD,asrtS,AV.dcells,D.cells?,stcV,stcS,leafOk,eqDs,eqD,packA,D.val?,↓reduceIte,reduceCtorEq,Nat.reduceAdd,Nat.reduceSub,Nat.reduceMul,List.reduceReplicate,Nat.reduceLeDiff,Nat.reduceLT,Nat.reduceBEq,Nat.reduceEqDiff,Int.reduceNeg,Int.reduceEq,Int.reduceLE,Int.reduceLT,tfb,D.flat,D.flats,ctz13,O13_8,O13_10,x13_28,x13_30,eq30,z13_31,ctz31,x13o_28,x13o_30,z13o_31,z13_58,cy13_58,ctzy13_58,ctz13o,yy13_58_21,yy13_58_22,ctz58,x58_29,eq_self, hlt', d1, hl2, hl3]
    repeat (refine And.intro (by omega) ?_)
    exact ⟨k + 1, ⟨by omega, by omega⟩, rfl, by rw [hs], by rw [hs]⟩
  have hb := trN_b c0 ht' l.games.length (Nat.le_refl _)
  have hf := fr_b c0 hb.2 ht'
  have hl2 : (trN l t l.games.length).2 < l.far.length := hb.2.2
  have hl3 : t < ((l.far.getD (trN l t l.games.length).2.toNat default).length : Int) := by omega
  unfold fr at hf
  simp (maxSteps := 4000000) +contextual (disch := first | omega | exact qdb_ok (by kernel_rfl) | exact okb_ok (by kernel_rfl)) only [bw1,bw2,bw3,bw4,bw5,bw6,bw7,bc0,bc1,bc2,bc3,bc4,bc5,bc6,bc7,bb0,setPs,AV.owns,AV.datF,AV.frz,AV.cpy,ifV,isEqB,nilV,nilX,AV.isNilS,AV.isNoRows,wk,dclo,datOf,binIs,addF,AV.isPtr,idxV,AV.isSl,AV.isSlice,AV.rows,ps,pv,extV,extS,AV.outs,AV.outF,packD,AV.dl,fieldV,fieldS,AV.cells?,AV.upr,AV.menc,AV.one,D.one,Value.oneCell',tagOf,AV.isApp,strV,strS,bolV,bolS,slcV,AV.isSlD,asrtS,AV.dcells,D.cells?,stcV,stcS,leafOk,eqDs,eqD,packA,D.val?,↓reduceIte,reduceCtorEq,Nat.reduceAdd,Nat.reduceSub,Nat.reduceMul,List.reduceReplicate,Nat.reduceLeDiff,Nat.reduceLT,Nat.reduceBEq,Nat.reduceEqDiff,Int.reduceNeg,Int.reduceEq,Int.reduceLE,Int.reduceLT,tfb,D.flat,D.flats,ctz13,O13_8,O13_10,x13_28,x13_30,eq30,z13_31,ctz31,x13o_28,x13o_30,z13o_31,z13_58,cy13_58,ctzy13_58,ctz13o,yy13_58_21,yy13_58_22,ctz58,x58_29,eq_self, hl2, hl3]
  repeat (refine And.intro (by omega) ?_)
  rfl
def ent13 (args : List AV) (K : AV → List AV → Sto → Prop) (e : List AV) (s : Sto) : Prop := ent (α := (Lea) × (Int)) (fun aa => [.agg aa.1.c, .i aa.2]) (fun aa => aa.1.far.length ≤ 1000) (fun aa => .tup [.i (trR aa.1 aa.2).1, .i (trR aa.1 aa.2).2]) args K e s
theorem ent13_ok {args : List AV} {K : AV → List AV → Sto → Prop} {Q : Kt} {e : List AV} {s : Sto} (h : ent13 args K e s) : pcall Tryd.prog 13 args K Q e s := ent_ok (fun aa h => pf13 aa.1 aa.2 h) h
theorem eq13 {l : Lea} {t : Int} {KK : AV → List AV → Sto → Prop} {ee : List AV} {ss : Sto} : ent13 [.d (.agg l.c), .d (.i t)] KK ee ss = ((l.far.length ≤ 1000) ∧ KK (.d (.tup [.i (trR l t).1, .i (trR l t).2])) ee ss) := by
  unfold ent13; rw [ent_iff (l, t) (by intro b h; simpa [Prod.ext_iff, and_assoc, Int.ofNat_inj, ints_inj, gams_inj, fars_inj, gam_inj, lea_inj, Int.ofNat_inj, ints_inj, gams_inj, fars_inj, gam_inj, lea_inj, stds_inj, std_inj, Int.ofNat_inj, ints_inj, gams_inj, fars_inj, gam_inj, lea_inj] using h) rfl]; simp
end Go.Proofs.YtmajlffglplcnaaDoor
