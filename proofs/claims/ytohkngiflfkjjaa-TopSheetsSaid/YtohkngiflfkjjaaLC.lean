/- A part of the proof that the last text ends: what functions of the program do, told by plain data. -/
import Derived.Test.YtohkngiflfkjjaaLB
set_option linter.unusedVariables false
set_option linter.unusedSimpArgs false
namespace Go.Proofs.Ytohkngiflfkjjaa
open Go Go.E
set_option maxRecDepth 100000
set_option maxHeartbeats 16000000
/-! ### The program: a valid league -/
def O49 : Nat → Sch := fun id => .done
theorem ho49 : Try.f49.body.map (okO O49) = some true := by kernel_rfl
def Cf49 : Nat → List AV → (AV → List AV → Sto → Prop) → Kt → List AV → Sto → Prop := fun f args K Q e s => match f with
  | 50 => ent50 args K e s
  | _ => False
def Ct49 : CT := { f := Cf49, y := noYld, z := fun d => false }
theorem ctz49 {d : Nat} : CT.z Ct49 d = (false) := id rfl
theorem Ct49_ok : Ct49.ok Try.prog := ok_of_f (fun f args K Q e s h => by
  have h : Cf49 f args K Q e s := h
  unfold Cf49 at h; split at h
  · exact ent50_ok h
  · exact h.elim) (fun _ _ _ _ _ _ _ _ _ h => h)
theorem x49_50 {n : Int} {lo : Int} {hi : Int} {KK : AV → List AV → Sto → Prop} {QQ : Kt} {ii : At KK} {jj : At QQ} {ee : List AV} {ss : Sto} : xC Ct49 50 [.d (.i n), .d (.i lo), .d (.i hi)] KK QQ ii jj ee ss = (KK (.d (.b (inB n lo hi))) ee ss) := eq50
theorem c49 : callable Try.prog 49 = true := by kernel_rfl
def O75 : Nat → Sch := fun id => .done
theorem ho75 : Try.f75.body.map (okO O75) = some true := by kernel_rfl
def Cf75 : Nat → List AV → (AV → List AV → Sto → Prop) → Kt → List AV → Sto → Prop := fun f args K Q e s => match f with
  | 49 => inlE Try.prog Ct49 O49 49000 49 args K Q e s
  | _ => False
def Ct75 : CT := { f := Cf75, y := noYld, z := fun d => false }
theorem ctz75 {d : Nat} : CT.z Ct75 d = (false) := id rfl
theorem Ct75_ok : Ct75.ok Try.prog := ok_of_f (fun f args K Q e s h => by
  have h : Cf75 f args K Q e s := h
  unfold Cf75 at h; split at h
  · exact inlE_ok Ct49_ok hmix ho49 h
  · exact h.elim) (fun _ _ _ _ _ _ _ _ _ h => h)
theorem z75_49 : type_of% (@xinl Try.prog Ct75 Ct49 O49 49000 49 _ _ _ _ rfl c49 Try.func49 rfl Try.ntmps49 Try.results49) := @xinl Try.prog Ct75 Ct49 O49 49000 49 _ _ _ _ rfl c49 Try.func49 rfl Try.ntmps49 Try.results49
theorem c75 : callable Try.prog 75 = true := by kernel_rfl
def O52 : Nat → Sch := fun id => .done
theorem ho52 : Try.f52.body.map (okO O52) = some true := by kernel_rfl
def Cf52 : Nat → List AV → (AV → List AV → Sto → Prop) → Kt → List AV → Sto → Prop := fun f args K Q e s => match f with
  | 75 => inlE Try.prog Ct75 O75 75000 75 args K Q e s
  | _ => False
def Ct52 : CT := { f := Cf52, y := noYld, z := fun d => false }
theorem ctz52 {d : Nat} : CT.z Ct52 d = (false) := id rfl
theorem Ct52_ok : Ct52.ok Try.prog := ok_of_f (fun f args K Q e s h => by
  have h : Cf52 f args K Q e s := h
  unfold Cf52 at h; split at h
  · exact inlE_ok Ct75_ok hmix ho75 h
  · exact h.elim) (fun _ _ _ _ _ _ _ _ _ h => h)
theorem z52_75 : type_of% (@xinl Try.prog Ct52 Ct75 O75 75000 75 _ _ _ _ rfl c75 Try.func75 rfl Try.ntmps75 Try.results75) := @xinl Try.prog Ct52 Ct75 O75 75000 75 _ _ _ _ rfl c75 Try.func75 rfl Try.ntmps75 Try.results75
theorem c52 : callable Try.prog 52 = true := by kernel_rfl
def O51 : Nat → Sch := fun id => .done
theorem ho51 : Try.f51.body.map (okO O51) = some true := by kernel_rfl
def Cf51 : Nat → List AV → (AV → List AV → Sto → Prop) → Kt → List AV → Sto → Prop := fun f args K Q e s => match f with
  | 52 => inlE Try.prog Ct52 O52 52000 52 args K Q e s
  | _ => False
def Ct51 : CT := { f := Cf51, y := noYld, z := fun d => false }
theorem ctz51 {d : Nat} : CT.z Ct51 d = (false) := id rfl
theorem Ct51_ok : Ct51.ok Try.prog := ok_of_f (fun f args K Q e s h => by
  have h : Cf51 f args K Q e s := h
  unfold Cf51 at h; split at h
  · exact inlE_ok Ct52_ok hmix ho52 h
  · exact h.elim) (fun _ _ _ _ _ _ _ _ _ h => h)
theorem z51_52 : type_of% (@xinl Try.prog Ct51 Ct52 O52 52000 52 _ _ _ _ rfl c52 Try.func52 rfl Try.ntmps52 Try.results52) := @xinl Try.prog Ct51 Ct52 O52 52000 52 _ _ _ _ rfl c52 Try.func52 rfl Try.ntmps52 Try.results52
theorem c51 : callable Try.prog 51 = true := by kernel_rfl
def O76 : Nat → Sch := fun id => .done
theorem ho76 : Try.f76.body.map (okO O76) = some true := by kernel_rfl
def Cf76 : Nat → List AV → (AV → List AV → Sto → Prop) → Kt → List AV → Sto → Prop := fun f args K Q e s => match f with
  | 51 => inlE Try.prog Ct51 O51 51000 51 args K Q e s
  | _ => False
def Ct76 : CT := { f := Cf76, y := noYld, z := fun d => false }
theorem ctz76 {d : Nat} : CT.z Ct76 d = (false) := id rfl
theorem Ct76_ok : Ct76.ok Try.prog := ok_of_f (fun f args K Q e s h => by
  have h : Cf76 f args K Q e s := h
  unfold Cf76 at h; split at h
  · exact inlE_ok Ct51_ok hmix ho51 h
  · exact h.elim) (fun _ _ _ _ _ _ _ _ _ h => h)
theorem z76_51 : type_of% (@xinl Try.prog Ct76 Ct51 O51 51000 51 _ _ _ _ rfl c51 Try.func51 rfl Try.ntmps51 Try.results51) := @xinl Try.prog Ct76 Ct51 O51 51000 51 _ _ _ _ rfl c51 Try.func51 rfl Try.ntmps51 Try.results51
theorem c76 : callable Try.prog 76 = true := by kernel_rfl
def O54 : Nat → Sch := fun id => .done
theorem ho54 : Try.f54.body.map (okO O54) = some true := by kernel_rfl
def Cf54 : Nat → List AV → (AV → List AV → Sto → Prop) → Kt → List AV → Sto → Prop := fun f args K Q e s => match f with
  | 76 => inlE Try.prog Ct76 O76 76000 76 args K Q e s
  | _ => False
def Ct54 : CT := { f := Cf54, y := noYld, z := fun d => false }
theorem ctz54 {d : Nat} : CT.z Ct54 d = (false) := id rfl
theorem Ct54_ok : Ct54.ok Try.prog := ok_of_f (fun f args K Q e s h => by
  have h : Cf54 f args K Q e s := h
  unfold Cf54 at h; split at h
  · exact inlE_ok Ct76_ok hmix ho76 h
  · exact h.elim) (fun _ _ _ _ _ _ _ _ _ h => h)
theorem z54_76 : type_of% (@xinl Try.prog Ct54 Ct76 O76 76000 76 _ _ _ _ rfl c76 Try.func76 rfl Try.ntmps76 Try.results76) := @xinl Try.prog Ct54 Ct76 O76 76000 76 _ _ _ _ rfl c76 Try.func76 rfl Try.ntmps76 Try.results76
theorem c54 : callable Try.prog 54 = true := by kernel_rfl
def O29 : Nat → Sch := fun id => .done
theorem ho29 : Try.f29.body.map (okO O29) = some true := by kernel_rfl
def Cf29 : Nat → List AV → (AV → List AV → Sto → Prop) → Kt → List AV → Sto → Prop := fun f args K Q e s => match f with
  | 53 => ent53 args K e s
  | 54 => inlE Try.prog Ct54 O54 54000 54 args K Q e s
  | _ => False
def Ct29 : CT := { f := Cf29, y := noYld, z := fun d => false }
theorem ctz29 {d : Nat} : CT.z Ct29 d = (false) := id rfl
theorem Ct29_ok : Ct29.ok Try.prog := ok_of_f (fun f args K Q e s h => by
  have h : Cf29 f args K Q e s := h
  unfold Cf29 at h; split at h
  · exact ent53_ok h
  · exact inlE_ok Ct54_ok hmix ho54 h
  · exact h.elim) (fun _ _ _ _ _ _ _ _ _ h => h)
theorem x29_53 {g : Gam} {n : Int} {KK : AV → List AV → Sto → Prop} {QQ : Kt} {ii : At KK} {jj : At QQ} {ee : List AV} {ss : Sto} : xC Ct29 53 [.d (.agg g.c), .d (.i n)] KK QQ ii jj ee ss = ((0 ≤ n ∧ n ≤ 1000000) ∧ KK (.d (.b (gmOk g n))) ee ss) := eq53
theorem z29_54 : type_of% (@xinl Try.prog Ct29 Ct54 O54 54000 54 _ _ _ _ rfl c54 Try.func54 rfl Try.ntmps54 Try.results54) := @xinl Try.prog Ct29 Ct54 O54 54000 54 _ _ _ _ rfl c54 Try.func54 rfl Try.ntmps54 Try.results54
theorem c29 : callable Try.prog 29 = true := by kernel_rfl
theorem pf29 (l : Lea) (h : l.far.length ≤ 1000) : PF Try.prog 29 [.agg l.c] (fun zz => zz = .ret (.b (leaOk l))) := by
  have hfar := h
  by_cases b1 : (l.far.length : Int) ≤ 6
  case neg =>
    have b1' : (6 : Int) < l.far.length := by omega
    rw [lea_big fun h => b1 h.1]
    refine PF_nil (PF_start (O := O29) Ct29_ok hmix ho29 Try.func29 c29 rfl Try.ntmps29 Try.results29 ?_)
    simp (maxSteps := 4000000) +contextual (disch := first | omega | exact qdb_ok (by kernel_rfl) | exact okb_ok (by kernel_rfl)) only [bw1,bw2,bw3,bw4,bw5,bw6,bw7,bc0,bc1,bc2,bc3,bc4,bc5,bc6,bc7,bb0,setPs,AV.owns,AV.datF,AV.frz,AV.cpy,ifV,isEqB,nilV,nilX,AV.isNilS,AV.isNoRows,wk,dclo,datOf,binIs,addF,AV.isPtr,idxV,AV.isSl,AV.isSlice,AV.rows,ps,pv,extV,extS,AV.outs,AV.outF,packD,AV.dl,fieldV,fieldS,AV.cells?,AV.upr,AV.menc,AV.one,D.one,Value.oneCell',tagOf,AV.isApp,strV,strS,bolV,bolS,slcV,AV.isSlD,asrtS,AV.dcells,D.cells?,stcV,stcS,leafOk,eqDs,eqD,packA,D.val?,↓reduceIte,reduceCtorEq,Nat.reduceAdd,Nat.reduceSub,Nat.reduceMul,List.reduceReplicate,Nat.reduceLeDiff,Nat.reduceLT,Nat.reduceBEq,Nat.reduceEqDiff,Int.reduceNeg,Int.reduceEq,Int.reduceLE,Int.reduceLT,tfb,ctz29,x29_53,z29_54,ctz54,z54_76,ctz76,z76_51,ctz51,z51_52,ctz52,z52_75,ctz75,z75_49,ctz49,x49_50,b1']
  by_cases b2 : (l.games.length : Int) ≤ 64
  case neg =>
    have b1' : ¬ (6 : Int) < l.far.length := by omega
    have b2' : (64 : Int) < l.games.length := by omega
    rw [lea_big fun h => b2 h.2]
    refine PF_nil (PF_start (O := O29) Ct29_ok hmix ho29 Try.func29 c29 rfl Try.ntmps29 Try.results29 ?_)
    simp (maxSteps := 4000000) +contextual (disch := first | omega | exact qdb_ok (by kernel_rfl) | exact okb_ok (by kernel_rfl)) only [bw1,bw2,bw3,bw4,bw5,bw6,bw7,bc0,bc1,bc2,bc3,bc4,bc5,bc6,bc7,bb0,setPs,AV.owns,AV.datF,AV.frz,AV.cpy,ifV,isEqB,nilV,nilX,AV.isNilS,AV.isNoRows,wk,dclo,datOf,binIs,addF,AV.isPtr,idxV,AV.isSl,AV.isSlice,AV.rows,ps,pv,extV,extS,AV.outs,AV.outF,packD,AV.dl,fieldV,fieldS,AV.cells?,AV.upr,AV.menc,AV.one,D.one,Value.oneCell',tagOf,AV.isApp,strV,strS,bolV,bolS,slcV,AV.isSlD,asrtS,AV.dcells,D.cells?,stcV,stcS,leafOk,eqDs,eqD,packA,D.val?,↓reduceIte,reduceCtorEq,Nat.reduceAdd,Nat.reduceSub,Nat.reduceMul,List.reduceReplicate,Nat.reduceLeDiff,Nat.reduceLT,Nat.reduceBEq,Nat.reduceEqDiff,Int.reduceNeg,Int.reduceEq,Int.reduceLE,Int.reduceLT,tfb,ctz29,x29_53,z29_54,ctz54,z54_76,ctz76,z76_51,ctz51,z51_52,ctz52,z52_75,ctz75,z75_49,ctz49,x49_50,b1', b2']
  have b1' : ¬ (6 : Int) < l.far.length := by omega
  have b2' : ¬ (64 : Int) < l.games.length := by omega
  obtain ⟨W, hW⟩ : ∃ W, W = leaOk l := ⟨_, rfl⟩
  rw [← hW]
  refine PF_nil (PF_start (O := O29) Ct29_ok hmix ho29 Try.func29 c29 rfl Try.ntmps29 Try.results29 ?_)
  simp (maxSteps := 4000000) +contextual (disch := first | omega | exact qdb_ok (by kernel_rfl) | exact okb_ok (by kernel_rfl)) only [bw1,bw2,bw3,bw4,bw5,bw6,bw7,bc0,bc1,bc2,bc3,bc4,bc5,bc6,bc7,bb0,setPs,AV.owns,AV.datF,AV.frz,AV.cpy,ifV,isEqB,nilV,nilX,AV.isNilS,AV.isNoRows,wk,dclo,datOf,binIs,addF,AV.isPtr,idxV,AV.isSl,AV.isSlice,AV.rows,ps,pv,extV,extS,AV.outs,AV.outF,packD,AV.dl,fieldV,fieldS,AV.cells?,AV.upr,AV.menc,AV.one,D.one,Value.oneCell',tagOf,AV.isApp,strV,strS,bolV,bolS,slcV,AV.isSlD,asrtS,AV.dcells,D.cells?,stcV,stcS,leafOk,eqDs,eqD,packA,D.val?,↓reduceIte,reduceCtorEq,Nat.reduceAdd,Nat.reduceSub,Nat.reduceMul,List.reduceReplicate,Nat.reduceLeDiff,Nat.reduceLT,Nat.reduceBEq,Nat.reduceEqDiff,Int.reduceNeg,Int.reduceEq,Int.reduceLE,Int.reduceLT,tfb,ctz29,x29_53,z29_54,ctz54,z54_76,ctz76,z76_51,ctz51,z51_52,ctz52,z52_75,ctz75,z75_49,ctz49,x49_50,b1', b2']
  refine loop_xu (O := O29) (tb := 0) Ct29_ok hmix (by kernel_rfl) (σ := Nat) (fun j => [(6, .i (openN l.games j : Int)), (24, .i j)]) (fun _ => []) (fun j => j ≤ l.games.length ∧ ∀ q, q < j → gmOk (l.games.getD q default) l.far.length = true) (fun j => l.games.length - j) 0 ⟨Nat.zero_le _, fun j hj => by omega⟩ ?_ ?_
  · have hz : openN l.games 0 = 0 := openN_zero
    simp (maxSteps := 4000000) +contextual (disch := first | omega | exact qdb_ok (by kernel_rfl) | exact okb_ok (by kernel_rfl)) only [bw1,bw2,bw3,bw4,bw5,bw6,bw7,bc0,bc1,bc2,bc3,bc4,bc5,bc6,bc7,bb0,setPs,AV.owns,AV.datF,AV.frz,AV.cpy,ifV,isEqB,nilV,nilX,AV.isNilS,AV.isNoRows,wk,dclo,datOf,binIs,addF,AV.isPtr,idxV,AV.isSl,AV.isSlice,AV.rows,ps,pv,extV,extS,AV.outs,AV.outF,packD,AV.dl,fieldV,fieldS,AV.cells?,AV.upr,AV.menc,AV.one,D.one,Value.oneCell',tagOf,AV.isApp,strV,strS,bolV,bolS,slcV,AV.isSlD,asrtS,AV.dcells,D.cells?,stcV,stcS,leafOk,eqDs,eqD,packA,D.val?,↓reduceIte,reduceCtorEq,Nat.reduceAdd,Nat.reduceSub,Nat.reduceMul,List.reduceReplicate,Nat.reduceLeDiff,Nat.reduceLT,Nat.reduceBEq,Nat.reduceEqDiff,Int.reduceNeg,Int.reduceEq,Int.reduceLE,Int.reduceLT,tfb,ctz29,x29_53,z29_54,ctz54,z54_76,ctz76,z76_51,ctz51,z51_52,ctz52,z52_75,ctz75,z75_49,ctz49,x49_50,eq_self, hz]
    try rfl
  rintro j ⟨hj1, hj3⟩
  have hon := openN_le (l := l.games) (j := j)
  by_cases e1 : j < l.games.length
  · have e1' : (j : Int) < l.games.length := by omega
    by_cases e3 : gmOk (l.games.getD j default) l.far.length = true
    · by_cases e4 : (l.games.getD j default).fin = 0
      · have e4b : ((l.games.getD j default).fin == 0) = true := by simpa using e4
        have hs := openN_yes e1 e4
        simp (maxSteps := 4000000) +contextual (disch := first | omega | exact qdb_ok (by kernel_rfl) | exact okb_ok (by kernel_rfl)) only [bw1,bw2,bw3,bw4,bw5,bw6,bw7,bc0,bc1,bc2,bc3,bc4,bc5,bc6,bc7,bb0,setPs,AV.owns,AV.datF,AV.frz,AV.cpy,ifV,isEqB,nilV,nilX,AV.isNilS,AV.isNoRows,wk,dclo,datOf,binIs,addF,AV.isPtr,idxV,AV.isSl,AV.isSlice,AV.rows,ps,pv,extV,extS,AV.outs,AV.outF,packD,AV.dl,fieldV,fieldS,AV.cells?,AV.upr,AV.menc,AV.one,D.one,Value.oneCell',tagOf,AV.isApp,strV,strS,bolV,bolS,slcV,AV.isSlD,asrtS,AV.dcells,D.cells?,stcV,stcS,leafOk,eqDs,eqD,packA,D.val?,↓reduceIte,reduceCtorEq,Nat.reduceAdd,Nat.reduceSub,Nat.reduceMul,List.reduceReplicate,Nat.reduceLeDiff,Nat.reduceLT,Nat.reduceBEq,Nat.reduceEqDiff,Int.reduceNeg,Int.reduceEq,Int.reduceLE,Int.reduceLT,tfb,ctz29,x29_53,z29_54,ctz54,z54_76,ctz76,z76_51,ctz51,z51_52,ctz52,z52_75,ctz75,z75_49,ctz49,x49_50,eq_self, e1', e3, e4b, hfar]
        and_intros <;> first | omega | exact ⟨j + 1, ⟨⟨by omega, fun q hq => by rcases Nat.lt_succ_iff_lt_or_eq.1 hq with h' | rfl; exact hj3 q h'; exact e3⟩, by omega⟩, by rw [hs] <;> rfl, rfl⟩
      · have e4b : ((l.games.getD j default).fin == 0) = false := by simpa using e4
        have hs := openN_no e1 e4
        simp (maxSteps := 4000000) +contextual (disch := first | omega | exact qdb_ok (by kernel_rfl) | exact okb_ok (by kernel_rfl)) only [bw1,bw2,bw3,bw4,bw5,bw6,bw7,bc0,bc1,bc2,bc3,bc4,bc5,bc6,bc7,bb0,setPs,AV.owns,AV.datF,AV.frz,AV.cpy,ifV,isEqB,nilV,nilX,AV.isNilS,AV.isNoRows,wk,dclo,datOf,binIs,addF,AV.isPtr,idxV,AV.isSl,AV.isSlice,AV.rows,ps,pv,extV,extS,AV.outs,AV.outF,packD,AV.dl,fieldV,fieldS,AV.cells?,AV.upr,AV.menc,AV.one,D.one,Value.oneCell',tagOf,AV.isApp,strV,strS,bolV,bolS,slcV,AV.isSlD,asrtS,AV.dcells,D.cells?,stcV,stcS,leafOk,eqDs,eqD,packA,D.val?,↓reduceIte,reduceCtorEq,Nat.reduceAdd,Nat.reduceSub,Nat.reduceMul,List.reduceReplicate,Nat.reduceLeDiff,Nat.reduceLT,Nat.reduceBEq,Nat.reduceEqDiff,Int.reduceNeg,Int.reduceEq,Int.reduceLE,Int.reduceLT,tfb,ctz29,x29_53,z29_54,ctz54,z54_76,ctz76,z76_51,ctz51,z51_52,ctz52,z52_75,ctz75,z75_49,ctz49,x49_50,eq_self, e1', e3, e4b, hfar]
        and_intros <;> first | omega | exact ⟨j + 1, ⟨⟨by omega, fun q hq => by rcases Nat.lt_succ_iff_lt_or_eq.1 hq with h' | rfl; exact hj3 q h'; exact e3⟩, by omega⟩, by rw [hs], rfl⟩
    · have e3b : gmOk (l.games.getD j default) l.far.length = false := by simpa using e3
      have hWf : W = false := hW.trans (lea_gam e1 e3b)
      simp (maxSteps := 4000000) +contextual (disch := first | omega | exact qdb_ok (by kernel_rfl) | exact okb_ok (by kernel_rfl)) only [bw1,bw2,bw3,bw4,bw5,bw6,bw7,bc0,bc1,bc2,bc3,bc4,bc5,bc6,bc7,bb0,setPs,AV.owns,AV.datF,AV.frz,AV.cpy,ifV,isEqB,nilV,nilX,AV.isNilS,AV.isNoRows,wk,dclo,datOf,binIs,addF,AV.isPtr,idxV,AV.isSl,AV.isSlice,AV.rows,ps,pv,extV,extS,AV.outs,AV.outF,packD,AV.dl,fieldV,fieldS,AV.cells?,AV.upr,AV.menc,AV.one,D.one,Value.oneCell',tagOf,AV.isApp,strV,strS,bolV,bolS,slcV,AV.isSlD,asrtS,AV.dcells,D.cells?,stcV,stcS,leafOk,eqDs,eqD,packA,D.val?,↓reduceIte,reduceCtorEq,Nat.reduceAdd,Nat.reduceSub,Nat.reduceMul,List.reduceReplicate,Nat.reduceLeDiff,Nat.reduceLT,Nat.reduceBEq,Nat.reduceEqDiff,Int.reduceNeg,Int.reduceEq,Int.reduceLE,Int.reduceLT,tfb,ctz29,x29_53,z29_54,ctz54,z54_76,ctz76,z76_51,ctz51,z51_52,ctz52,z52_75,ctz75,z75_49,ctz49,x49_50,eq_self, e1', e3b, hfar, hWf]
      try (and_intros <;> first | omega | rfl | trivial)
  have e1' : ¬ (j : Int) < l.games.length := by omega
  obtain rfl : j = l.games.length := by omega
  simp (maxSteps := 4000000) +contextual (disch := first | omega | exact qdb_ok (by kernel_rfl) | exact okb_ok (by kernel_rfl)) only [bw1,bw2,bw3,bw4,bw5,bw6,bw7,bc0,bc1,bc2,bc3,bc4,bc5,bc6,bc7,bb0,setPs,AV.owns,AV.datF,AV.frz,AV.cpy,ifV,isEqB,nilV,nilX,AV.isNilS,AV.isNoRows,wk,dclo,datOf,binIs,addF,AV.isPtr,idxV,AV.isSl,AV.isSlice,AV.rows,ps,pv,extV,extS,AV.outs,AV.outF,packD,AV.dl,fieldV,fieldS,AV.cells?,AV.upr,AV.menc,AV.one,D.one,Value.oneCell',tagOf,AV.isApp,strV,strS,bolV,bolS,slcV,AV.isSlD,asrtS,AV.dcells,D.cells?,stcV,stcS,leafOk,eqDs,eqD,packA,D.val?,↓reduceIte,reduceCtorEq,Nat.reduceAdd,Nat.reduceSub,Nat.reduceMul,List.reduceReplicate,Nat.reduceLeDiff,Nat.reduceLT,Nat.reduceBEq,Nat.reduceEqDiff,Int.reduceNeg,Int.reduceEq,Int.reduceLE,Int.reduceLT,tfb,ctz29,x29_53,z29_54,ctz54,z54_76,ctz76,z76_51,ctz51,z51_52,ctz52,z52_75,ctz75,z75_49,ctz49,x49_50,eq_self, Int.lt_irrefl]
  refine loop_xu (O := O76) (tb := 76000) Ct76_ok hmix (by kernel_rfl) (σ := Nat) (fun i => [(8, .i i)]) (fun _ => []) (fun i => i ≤ l.far.length ∧ ∀ q, q < i → rowOk l.far.length (l.far.getD q default) = true) (fun i => l.far.length - i) 0 ⟨Nat.zero_le _, fun j hj => by omega⟩ ?_ ?_
  · simp (maxSteps := 4000000) +contextual (disch := first | omega | exact qdb_ok (by kernel_rfl) | exact okb_ok (by kernel_rfl)) only [bw1,bw2,bw3,bw4,bw5,bw6,bw7,bc0,bc1,bc2,bc3,bc4,bc5,bc6,bc7,bb0,setPs,AV.owns,AV.datF,AV.frz,AV.cpy,ifV,isEqB,nilV,nilX,AV.isNilS,AV.isNoRows,wk,dclo,datOf,binIs,addF,AV.isPtr,idxV,AV.isSl,AV.isSlice,AV.rows,ps,pv,extV,extS,AV.outs,AV.outF,packD,AV.dl,fieldV,fieldS,AV.cells?,AV.upr,AV.menc,AV.one,D.one,Value.oneCell',tagOf,AV.isApp,strV,strS,bolV,bolS,slcV,AV.isSlD,asrtS,AV.dcells,D.cells?,stcV,stcS,leafOk,eqDs,eqD,packA,D.val?,↓reduceIte,reduceCtorEq,Nat.reduceAdd,Nat.reduceSub,Nat.reduceMul,List.reduceReplicate,Nat.reduceLeDiff,Nat.reduceLT,Nat.reduceBEq,Nat.reduceEqDiff,Int.reduceNeg,Int.reduceEq,Int.reduceLE,Int.reduceLT,tfb,ctz29,x29_53,z29_54,ctz54,z54_76,ctz76,z76_51,ctz51,z51_52,ctz52,z52_75,ctz75,z75_49,ctz49,x49_50,eq_self]
    try rfl
  rintro i ⟨hi1, hi3⟩
  by_cases c1 : i < l.far.length
  · have c1' : (i : Int) < l.far.length := by omega
    have hi0 : (0 : Int) ≤ i := by omega
    by_cases c3 : ((l.far.getD i default).length : Int) = l.far.length
    case neg =>
      have c3b : (((l.far.getD i default).length : Int) != (l.far.length : Int)) = true := by simpa using c3
      have hWf : W = false := hW.trans (lea_far c1 (row_len c3))
      simp (maxSteps := 4000000) +contextual (disch := first | omega | exact qdb_ok (by kernel_rfl) | exact okb_ok (by kernel_rfl)) only [bw1,bw2,bw3,bw4,bw5,bw6,bw7,bc0,bc1,bc2,bc3,bc4,bc5,bc6,bc7,bb0,setPs,AV.owns,AV.datF,AV.frz,AV.cpy,ifV,isEqB,nilV,nilX,AV.isNilS,AV.isNoRows,wk,dclo,datOf,binIs,addF,AV.isPtr,idxV,AV.isSl,AV.isSlice,AV.rows,ps,pv,extV,extS,AV.outs,AV.outF,packD,AV.dl,fieldV,fieldS,AV.cells?,AV.upr,AV.menc,AV.one,D.one,Value.oneCell',tagOf,AV.isApp,strV,strS,bolV,bolS,slcV,AV.isSlD,asrtS,AV.dcells,D.cells?,stcV,stcS,leafOk,eqDs,eqD,packA,D.val?,↓reduceIte,reduceCtorEq,Nat.reduceAdd,Nat.reduceSub,Nat.reduceMul,List.reduceReplicate,Nat.reduceLeDiff,Nat.reduceLT,Nat.reduceBEq,Nat.reduceEqDiff,Int.reduceNeg,Int.reduceEq,Int.reduceLE,Int.reduceLT,tfb,ctz29,x29_53,z29_54,ctz54,z54_76,ctz76,z76_51,ctz51,z51_52,ctz52,z52_75,ctz75,z75_49,ctz49,x49_50,eq_self, c1', c3b, hi0, hWf]
    have c3b : (((l.far.getD i default).length : Int) != (l.far.length : Int)) = false := by simpa using c3
    have hrow : ∀ k, k < l.far.length → inB ((l.far.getD i default).getD k default) 0 100000 = false → W = false := fun k hk hb => hW.trans (lea_far c1 (row_at (k := k) (by omega) hb))
    simp (maxSteps := 4000000) +contextual (disch := first | omega | exact qdb_ok (by kernel_rfl) | exact okb_ok (by kernel_rfl)) only [bw1,bw2,bw3,bw4,bw5,bw6,bw7,bc0,bc1,bc2,bc3,bc4,bc5,bc6,bc7,bb0,setPs,AV.owns,AV.datF,AV.frz,AV.cpy,ifV,isEqB,nilV,nilX,AV.isNilS,AV.isNoRows,wk,dclo,datOf,binIs,addF,AV.isPtr,idxV,AV.isSl,AV.isSlice,AV.rows,ps,pv,extV,extS,AV.outs,AV.outF,packD,AV.dl,fieldV,fieldS,AV.cells?,AV.upr,AV.menc,AV.one,D.one,Value.oneCell',tagOf,AV.isApp,strV,strS,bolV,bolS,slcV,AV.isSlD,asrtS,AV.dcells,D.cells?,stcV,stcS,leafOk,eqDs,eqD,packA,D.val?,↓reduceIte,reduceCtorEq,Nat.reduceAdd,Nat.reduceSub,Nat.reduceMul,List.reduceReplicate,Nat.reduceLeDiff,Nat.reduceLT,Nat.reduceBEq,Nat.reduceEqDiff,Int.reduceNeg,Int.reduceEq,Int.reduceLE,Int.reduceLT,tfb,ctz29,x29_53,z29_54,ctz54,z54_76,ctz76,z76_51,ctz51,z51_52,ctz52,z52_75,ctz75,z75_49,ctz49,x49_50,eq_self, c1', c3b, hi0]
    try refine ⟨by omega, ?_⟩
    refine loop_xu (O := O75) (tb := 75000) Ct75_ok hmix (by kernel_rfl) (σ := Nat) (fun k => [(8, .i k)]) (fun _ => []) (fun k => k ≤ l.far.length ∧ ∀ q, q < k → inB ((l.far.getD i default).getD q default) 0 100000 = true) (fun k => l.far.length - k) 0 ⟨Nat.zero_le _, fun j hj => by omega⟩ ?_ ?_
    · simp (maxSteps := 4000000) +contextual (disch := first | omega | exact qdb_ok (by kernel_rfl) | exact okb_ok (by kernel_rfl)) only [bw1,bw2,bw3,bw4,bw5,bw6,bw7,bc0,bc1,bc2,bc3,bc4,bc5,bc6,bc7,bb0,setPs,AV.owns,AV.datF,AV.frz,AV.cpy,ifV,isEqB,nilV,nilX,AV.isNilS,AV.isNoRows,wk,dclo,datOf,binIs,addF,AV.isPtr,idxV,AV.isSl,AV.isSlice,AV.rows,ps,pv,extV,extS,AV.outs,AV.outF,packD,AV.dl,fieldV,fieldS,AV.cells?,AV.upr,AV.menc,AV.one,D.one,Value.oneCell',tagOf,AV.isApp,strV,strS,bolV,bolS,slcV,AV.isSlD,asrtS,AV.dcells,D.cells?,stcV,stcS,leafOk,eqDs,eqD,packA,D.val?,↓reduceIte,reduceCtorEq,Nat.reduceAdd,Nat.reduceSub,Nat.reduceMul,List.reduceReplicate,Nat.reduceLeDiff,Nat.reduceLT,Nat.reduceBEq,Nat.reduceEqDiff,Int.reduceNeg,Int.reduceEq,Int.reduceLE,Int.reduceLT,tfb,ctz29,x29_53,z29_54,ctz54,z54_76,ctz76,z76_51,ctz51,z51_52,ctz52,z52_75,ctz75,z75_49,ctz49,x49_50,eq_self]
      try rfl
    rintro k ⟨hk1, hk2⟩
    by_cases d1 : k < l.far.length
    · have d1' : (k : Int) < (l.far.getD i default).length := by omega
      have hk0 : (0 : Int) ≤ k := by omega
      by_cases d2 : inB ((l.far.getD i default).getD k default) 0 100000 = true
      · simp (maxSteps := 4000000) +contextual (disch := first | omega | exact qdb_ok (by kernel_rfl) | exact okb_ok (by kernel_rfl)) only [bw1,bw2,bw3,bw4,bw5,bw6,bw7,bc0,bc1,bc2,bc3,bc4,bc5,bc6,bc7,bb0,setPs,AV.owns,AV.datF,AV.frz,AV.cpy,ifV,isEqB,nilV,nilX,AV.isNilS,AV.isNoRows,wk,dclo,datOf,binIs,addF,AV.isPtr,idxV,AV.isSl,AV.isSlice,AV.rows,ps,pv,extV,extS,AV.outs,AV.outF,packD,AV.dl,fieldV,fieldS,AV.cells?,AV.upr,AV.menc,AV.one,D.one,Value.oneCell',tagOf,AV.isApp,strV,strS,bolV,bolS,slcV,AV.isSlD,asrtS,AV.dcells,D.cells?,stcV,stcS,leafOk,eqDs,eqD,packA,D.val?,↓reduceIte,reduceCtorEq,Nat.reduceAdd,Nat.reduceSub,Nat.reduceMul,List.reduceReplicate,Nat.reduceLeDiff,Nat.reduceLT,Nat.reduceBEq,Nat.reduceEqDiff,Int.reduceNeg,Int.reduceEq,Int.reduceLE,Int.reduceLT,tfb,ctz29,x29_53,z29_54,ctz54,z54_76,ctz76,z76_51,ctz51,z51_52,ctz52,z52_75,ctz75,z75_49,ctz49,x49_50,eq_self, d1', d2, c1', hk0]
        exact ⟨k + 1, ⟨⟨by omega, fun q hq => by rcases Nat.lt_succ_iff_lt_or_eq.1 hq with h' | rfl; exact hk2 q h'; exact d2⟩, by omega⟩, rfl⟩
      · have d2b : inB ((l.far.getD i default).getD k default) 0 100000 = false := by simpa using d2
        have hWf := hrow k d1 d2b
        simp (maxSteps := 4000000) +contextual (disch := first | omega | exact qdb_ok (by kernel_rfl) | exact okb_ok (by kernel_rfl)) only [bw1,bw2,bw3,bw4,bw5,bw6,bw7,bc0,bc1,bc2,bc3,bc4,bc5,bc6,bc7,bb0,setPs,AV.owns,AV.datF,AV.frz,AV.cpy,ifV,isEqB,nilV,nilX,AV.isNilS,AV.isNoRows,wk,dclo,datOf,binIs,addF,AV.isPtr,idxV,AV.isSl,AV.isSlice,AV.rows,ps,pv,extV,extS,AV.outs,AV.outF,packD,AV.dl,fieldV,fieldS,AV.cells?,AV.upr,AV.menc,AV.one,D.one,Value.oneCell',tagOf,AV.isApp,strV,strS,bolV,bolS,slcV,AV.isSlD,asrtS,AV.dcells,D.cells?,stcV,stcS,leafOk,eqDs,eqD,packA,D.val?,↓reduceIte,reduceCtorEq,Nat.reduceAdd,Nat.reduceSub,Nat.reduceMul,List.reduceReplicate,Nat.reduceLeDiff,Nat.reduceLT,Nat.reduceBEq,Nat.reduceEqDiff,Int.reduceNeg,Int.reduceEq,Int.reduceLE,Int.reduceLT,tfb,ctz29,x29_53,z29_54,ctz54,z54_76,ctz76,z76_51,ctz51,z51_52,ctz52,z52_75,ctz75,z75_49,ctz49,x49_50,eq_self, d1', d2b, c1', hk0, hi0, hWf]
    have d1' : ¬ (k : Int) < (l.far.getD i default).length := by omega
    have hro := row_end c3 fun q hq => hk2 q (by omega)
    simp (maxSteps := 4000000) +contextual (disch := first | omega | exact qdb_ok (by kernel_rfl) | exact okb_ok (by kernel_rfl)) only [bw1,bw2,bw3,bw4,bw5,bw6,bw7,bc0,bc1,bc2,bc3,bc4,bc5,bc6,bc7,bb0,setPs,AV.owns,AV.datF,AV.frz,AV.cpy,ifV,isEqB,nilV,nilX,AV.isNilS,AV.isNoRows,wk,dclo,datOf,binIs,addF,AV.isPtr,idxV,AV.isSl,AV.isSlice,AV.rows,ps,pv,extV,extS,AV.outs,AV.outF,packD,AV.dl,fieldV,fieldS,AV.cells?,AV.upr,AV.menc,AV.one,D.one,Value.oneCell',tagOf,AV.isApp,strV,strS,bolV,bolS,slcV,AV.isSlD,asrtS,AV.dcells,D.cells?,stcV,stcS,leafOk,eqDs,eqD,packA,D.val?,↓reduceIte,reduceCtorEq,Nat.reduceAdd,Nat.reduceSub,Nat.reduceMul,List.reduceReplicate,Nat.reduceLeDiff,Nat.reduceLT,Nat.reduceBEq,Nat.reduceEqDiff,Int.reduceNeg,Int.reduceEq,Int.reduceLE,Int.reduceLT,tfb,ctz29,x29_53,z29_54,ctz54,z54_76,ctz76,z76_51,ctz51,z51_52,ctz52,z52_75,ctz75,z75_49,ctz49,x49_50,eq_self, d1']
    try exact ⟨i + 1, ⟨⟨by omega, fun q hq => by rcases Nat.lt_succ_iff_lt_or_eq.1 hq with h' | rfl; exact hi3 q h'; exact hro⟩, by omega⟩, rfl⟩
  have c1' : ¬ (i : Int) < l.far.length := by omega
  have hWe : W = decide ((openN l.games l.games.length : Int) ≤ 8) := hW.trans (lea_end ⟨b1, b2⟩ (fun q hq => hi3 q (by omega)) (fun q hq => hj3 q hq))
  simp (maxSteps := 4000000) +contextual (disch := first | omega | exact qdb_ok (by kernel_rfl) | exact okb_ok (by kernel_rfl)) only [bw1,bw2,bw3,bw4,bw5,bw6,bw7,bc0,bc1,bc2,bc3,bc4,bc5,bc6,bc7,bb0,setPs,AV.owns,AV.datF,AV.frz,AV.cpy,ifV,isEqB,nilV,nilX,AV.isNilS,AV.isNoRows,wk,dclo,datOf,binIs,addF,AV.isPtr,idxV,AV.isSl,AV.isSlice,AV.rows,ps,pv,extV,extS,AV.outs,AV.outF,packD,AV.dl,fieldV,fieldS,AV.cells?,AV.upr,AV.menc,AV.one,D.one,Value.oneCell',tagOf,AV.isApp,strV,strS,bolV,bolS,slcV,AV.isSlD,asrtS,AV.dcells,D.cells?,stcV,stcS,leafOk,eqDs,eqD,packA,D.val?,↓reduceIte,reduceCtorEq,Nat.reduceAdd,Nat.reduceSub,Nat.reduceMul,List.reduceReplicate,Nat.reduceLeDiff,Nat.reduceLT,Nat.reduceBEq,Nat.reduceEqDiff,Int.reduceNeg,Int.reduceEq,Int.reduceLE,Int.reduceLT,tfb,ctz29,x29_53,z29_54,ctz54,z54_76,ctz76,z76_51,ctz51,z51_52,ctz52,z52_75,ctz75,z75_49,ctz49,x49_50,eq_self, c1', hWe]
def ent29 (args : List AV) (K : AV → List AV → Sto → Prop) (e : List AV) (s : Sto) : Prop := ent (α := (Lea)) (fun aa => [.agg aa.c]) (fun aa => aa.far.length ≤ 1000) (fun aa => .b (leaOk aa)) args K e s
theorem ent29_ok {args : List AV} {K : AV → List AV → Sto → Prop} {Q : Kt} {e : List AV} {s : Sto} (h : ent29 args K e s) : pcall Try.prog 29 args K Q e s := ent_ok (fun aa h => pf29 aa h) h
theorem eq29 {l : Lea} {KK : AV → List AV → Sto → Prop} {ee : List AV} {ss : Sto} : ent29 [.d (.agg l.c)] KK ee ss = ((l.far.length ≤ 1000) ∧ KK (.d (.b (leaOk l))) ee ss) := by
  unfold ent29; rw [ent_iff l (by intro b h; simpa [Prod.ext_iff, and_assoc, Int.ofNat_inj, ints_inj, evs_inj, mems_inj, ev_inj, mem_inj, st_inj, gams_inj, fars_inj, gam_inj, lea_inj] using h) rfl]; simp
end Go.Proofs.Ytohkngiflfkjjaa
