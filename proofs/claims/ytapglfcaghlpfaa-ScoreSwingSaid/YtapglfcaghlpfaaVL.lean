/- A part of the proof that the last text ends: what functions of the program do, told by plain data. -/
import Derived.Test.YtapglfcaghlpfaaUE
set_option linter.unusedVariables false
set_option linter.unusedSimpArgs false
namespace Go.Proofs.Ytapglfcaghlpfaa
open Go Go.E Go.Maps
set_option maxRecDepth 100000
set_option maxHeartbeats 16000000
def beN (x t : Sco) : Int := if better x t = true then 1 else 0
def bC (l : List Sco) (t : Sco) : Nat → Int
  | 0 => 0
  | k + 1 => bC l t k + beN (l.getD k default) t
theorem bC_b {l : List Sco} {t : Sco} : ∀ k, 0 ≤ bC l t k ∧ bC l t k ≤ k
  | 0 => by simp [bC]
  | k + 1 => by
    have := bC_b (l := l) (t := t) k
    unfold bC beN
    split <;> omega
def rkR (l : List Sco) (k : Nat) : List Int := (List.range k).map fun i => 1 + bC l (l.getD i default) l.length
theorem rkR_succ {l : List Sco} {k : Nat} : rkR l (k + 1) = rkR l k ++ [1 + bC l (l.getD k default) l.length] := by
  unfold rkR; rw [List.range_succ, List.map_append]; rfl
theorem rkR_len {l : List Sco} {k : Nat} : (rkR l k).length = k := by unfold rkR; rw [List.length_map, List.length_range]
def rkG (l : List Sco) : List Int × Int := if (40 : Int) < l.length then ([], 3) else (rkR l l.length, 0)
theorem better_self {a : Sco} : better a a = false := by
  unfold better; simp
def O48 : Nat → Sch := fun id => .done
theorem ho48 : Try.f48.body.map (okO O48) = some true := by kernel_rfl
def Cf48 : Nat → List AV → (AV → List AV → Sto → Prop) → Kt → List AV → Sto → Prop := fun f args K Q e s => match f with
  | 49 => ent49 args K e s
  | _ => False
def Ct48 : CT := { f := Cf48, y := noYld, z := fun d => false }
theorem ctz48 {d : Nat} : CT.z Ct48 d = (false) := id rfl
theorem Ct48_ok : Ct48.ok Try.prog := ok_of_f (fun f args K Q e s h => by
  have h : Cf48 f args K Q e s := h
  unfold Cf48 at h; split at h
  · exact ent49_ok h
  · exact h.elim) (fun _ _ _ _ _ _ _ _ _ h => h)
theorem x48_49 {a : Sco} {b : Sco} {KK : AV → List AV → Sto → Prop} {QQ : Kt} {ii : At KK} {jj : At QQ} {ee : List AV} {ss : Sto} : xC Ct48 49 [.d (.agg a.c), .d (.agg b.c)] KK QQ ii jj ee ss = (KK (.d (.b (better a b))) ee ss) := eq49
theorem c48 : callable Try.prog 48 = true := by kernel_rfl
theorem pf48 (x t : Sco) : PF Try.prog 48 [.agg x.c, .ptr t.c 0] (fun zz => zz = .ret (.i (beN x t))) := by
  by_cases c : x = t
  · subst c
    have hb : beN x x = 0 := by unfold beN; rw [better_self]; rfl
    rw [hb]
    refine PF_nil (PF_start (O := O48) Ct48_ok hmix ho48 Try.func48 c48 rfl Try.ntmps48 Try.results48 ?_)
    simp (maxSteps := 4000000) +contextual (disch := first | omega | exact qdb_ok (by kernel_rfl) | exact okb_ok (by kernel_rfl)) only [bw1,bw2,bw3,bw4,bw5,bw6,bw7,bc0,bc1,bc2,bc3,bc4,bc5,bc6,bc7,setPs,AV.owns,AV.datF,AV.frz,AV.cpy,ifV,isEqB,nilV,nilX,AV.isNilS,AV.isNoRows,wk,dclo,datOf,binIs,addF,AV.isPtr,idxV,AV.isSl,AV.isSlice,AV.rows,ps,pv,extV,extS,AV.outs,AV.outF,packD,AV.dl,fieldV,fieldS,AV.cells?,AV.upr,AV.menc,AV.one,D.one,Value.oneCell',tagOf,AV.isApp,strV,strS,bolV,bolS,slcV,AV.isSlD,asrtS,AV.dcells,D.cells?,stcV,stcS,leafOk,eqDs,eqD,packA,D.val?,↓reduceIte,reduceCtorEq,Nat.reduceAdd,Nat.reduceSub,Nat.reduceMul,List.reduceReplicate,Nat.reduceLeDiff,Nat.reduceLT,Nat.reduceBEq,Nat.reduceEqDiff,Int.reduceNeg,Int.reduceEq,Int.reduceLE,Int.reduceLT,tfb,ctz48,x48_49]
  · have hq : (x.elements == t.elements && (x.parts == t.parts && (x.off == t.off && x.total == t.total))) = false := by
      rw [Bool.eq_false_iff]
      intro h
      simp only [Bool.and_eq_true, beq_iff_eq] at h
      refine c ?_
      cases x; cases t
      simp_all
    by_cases d : better x t = true
    · have hb : beN x t = 1 := by unfold beN; rw [if_pos d]
      rw [hb]
      refine PF_nil (PF_start (O := O48) Ct48_ok hmix ho48 Try.func48 c48 rfl Try.ntmps48 Try.results48 ?_)
      simp (maxSteps := 4000000) +contextual (disch := first | omega | exact qdb_ok (by kernel_rfl) | exact okb_ok (by kernel_rfl)) only [bw1,bw2,bw3,bw4,bw5,bw6,bw7,bc0,bc1,bc2,bc3,bc4,bc5,bc6,bc7,setPs,AV.owns,AV.datF,AV.frz,AV.cpy,ifV,isEqB,nilV,nilX,AV.isNilS,AV.isNoRows,wk,dclo,datOf,binIs,addF,AV.isPtr,idxV,AV.isSl,AV.isSlice,AV.rows,ps,pv,extV,extS,AV.outs,AV.outF,packD,AV.dl,fieldV,fieldS,AV.cells?,AV.upr,AV.menc,AV.one,D.one,Value.oneCell',tagOf,AV.isApp,strV,strS,bolV,bolS,slcV,AV.isSlD,asrtS,AV.dcells,D.cells?,stcV,stcS,leafOk,eqDs,eqD,packA,D.val?,↓reduceIte,reduceCtorEq,Nat.reduceAdd,Nat.reduceSub,Nat.reduceMul,List.reduceReplicate,Nat.reduceLeDiff,Nat.reduceLT,Nat.reduceBEq,Nat.reduceEqDiff,Int.reduceNeg,Int.reduceEq,Int.reduceLE,Int.reduceLT,tfb,ctz48,x48_49,d]
      exact fun h => h hq
    · have hb : beN x t = 0 := by unfold beN; rw [if_neg d]
      rw [hb]
      refine PF_nil (PF_start (O := O48) Ct48_ok hmix ho48 Try.func48 c48 rfl Try.ntmps48 Try.results48 ?_)
      simp (maxSteps := 4000000) +contextual (disch := first | omega | exact qdb_ok (by kernel_rfl) | exact okb_ok (by kernel_rfl)) only [bw1,bw2,bw3,bw4,bw5,bw6,bw7,bc0,bc1,bc2,bc3,bc4,bc5,bc6,bc7,setPs,AV.owns,AV.datF,AV.frz,AV.cpy,ifV,isEqB,nilV,nilX,AV.isNilS,AV.isNoRows,wk,dclo,datOf,binIs,addF,AV.isPtr,idxV,AV.isSl,AV.isSlice,AV.rows,ps,pv,extV,extS,AV.outs,AV.outF,packD,AV.dl,fieldV,fieldS,AV.cells?,AV.upr,AV.menc,AV.one,D.one,Value.oneCell',tagOf,AV.isApp,strV,strS,bolV,bolS,slcV,AV.isSlD,asrtS,AV.dcells,D.cells?,stcV,stcS,leafOk,eqDs,eqD,packA,D.val?,↓reduceIte,reduceCtorEq,Nat.reduceAdd,Nat.reduceSub,Nat.reduceMul,List.reduceReplicate,Nat.reduceLeDiff,Nat.reduceLT,Nat.reduceBEq,Nat.reduceEqDiff,Int.reduceNeg,Int.reduceEq,Int.reduceLE,Int.reduceLT,tfb,ctz48,x48_49,d]
def ent48 (args : List AV) (K : AV → List AV → Sto → Prop) (e : List AV) (s : Sto) : Prop := ent (α := (Sco) × (Sco)) (fun aa => [.agg aa.1.c, .ptr aa.2.c 0]) (fun aa => True) (fun aa => .i (beN aa.1 aa.2)) args K e s
theorem ent48_ok {args : List AV} {K : AV → List AV → Sto → Prop} {Q : Kt} {e : List AV} {s : Sto} (h : ent48 args K e s) : pcall Try.prog 48 args K Q e s := ent_ok (fun aa h => pf48 aa.1 aa.2) h
theorem eq48 {x : Sco} {t : Sco} {KK : AV → List AV → Sto → Prop} {ee : List AV} {ss : Sto} : ent48 [.d (.agg x.c), .d (.ptr t.c 0)] KK ee ss = (KK (.d (.i (beN x t))) ee ss) := by
  unfold ent48; rw [ent_iff (x, t) (by intro b h; simpa [Prod.ext_iff, and_assoc, Int.ofNat_inj, ints_inj, cals_inj, pcs_inj, skas_inj, scos_inj, ska_inj, rul_inj, sco_inj, cal_inj, ods_inj, od_inj, spns_inj] using h) rfl]; simp
def O47 : Nat → Sch := fun id => .done
theorem ho47 : Try.f47.body.map (okO O47) = some true := by kernel_rfl
def Cf47 : Nat → List AV → (AV → List AV → Sto → Prop) → Kt → List AV → Sto → Prop := fun f args K Q e s => match f with
  | 48 => ent48 args K e s
  | _ => False
def Ct47 : CT := { f := Cf47, y := noYld, z := fun d => false }
theorem ctz47 {d : Nat} : CT.z Ct47 d = (false) := id rfl
theorem Ct47_ok : Ct47.ok Try.prog := ok_of_f (fun f args K Q e s h => by
  have h : Cf47 f args K Q e s := h
  unfold Cf47 at h; split at h
  · exact ent48_ok h
  · exact h.elim) (fun _ _ _ _ _ _ _ _ _ h => h)
theorem x47_48 {x : Sco} {t : Sco} {KK : AV → List AV → Sto → Prop} {QQ : Kt} {ii : At KK} {jj : At QQ} {ee : List AV} {ss : Sto} : xC Ct47 48 [.d (.agg x.c), .d (.ptr t.c 0)] KK QQ ii jj ee ss = (KK (.d (.i (beN x t))) ee ss) := eq48
theorem c47 : callable Try.prog 47 = true := by kernel_rfl
theorem pf47 (l : List Sco) (t : Sco) (h : l.length ≤ 1000) : PF Try.prog 47 [.sl 4 (l.map Sco.c), .clo (.func 48) [] [.ptr t.c 0]] (fun zz => zz = .ret (.i (bC l t l.length))) := by
  have pb := bC_b (l := l) (t := t)
  have p0 : bC l t 0 = 0 := rfl
  have p1 : ∀ k, bC l t (k + 1) = bC l t k + beN (l.getD k default) t := fun k => rfl
  generalize bC l t = A at *
  refine PF_nil (PF_start (O := O47) Ct47_ok hmix ho47 Try.func47 c47 rfl Try.ntmps47 Try.results47 ?_)
  simp (maxSteps := 4000000) +contextual (disch := first | omega | exact qdb_ok (by kernel_rfl) | exact okb_ok (by kernel_rfl)) only [bw1,bw2,bw3,bw4,bw5,bw6,bw7,bc0,bc1,bc2,bc3,bc4,bc5,bc6,bc7,setPs,AV.owns,AV.datF,AV.frz,AV.cpy,ifV,isEqB,nilV,nilX,AV.isNilS,AV.isNoRows,wk,dclo,datOf,binIs,addF,AV.isPtr,idxV,AV.isSl,AV.isSlice,AV.rows,ps,pv,extV,extS,AV.outs,AV.outF,packD,AV.dl,fieldV,fieldS,AV.cells?,AV.upr,AV.menc,AV.one,D.one,Value.oneCell',tagOf,AV.isApp,strV,strS,bolV,bolS,slcV,AV.isSlD,asrtS,AV.dcells,D.cells?,stcV,stcS,leafOk,eqDs,eqD,packA,D.val?,↓reduceIte,reduceCtorEq,Nat.reduceAdd,Nat.reduceSub,Nat.reduceMul,List.reduceReplicate,Nat.reduceLeDiff,Nat.reduceLT,Nat.reduceBEq,Nat.reduceEqDiff,Int.reduceNeg,Int.reduceEq,Int.reduceLE,Int.reduceLT,tfb,ctz47,x47_48]
  refine loop_s (O := O47) (tb := 0) Ct47_ok hmix (by kernel_rfl) (σ := Nat) (fun i => [(4, .i (A i)), (6, .any), (9, .i i)]) (fun i => i ≤ l.length) (fun i => l.length - i) (fun i => i + 1) 0 (by omega) ?_ ?_
  · simp (maxSteps := 4000000) +contextual (disch := first | omega | exact qdb_ok (by kernel_rfl) | exact okb_ok (by kernel_rfl)) only [bw1,bw2,bw3,bw4,bw5,bw6,bw7,bc0,bc1,bc2,bc3,bc4,bc5,bc6,bc7,setPs,AV.owns,AV.datF,AV.frz,AV.cpy,ifV,isEqB,nilV,nilX,AV.isNilS,AV.isNoRows,wk,dclo,datOf,binIs,addF,AV.isPtr,idxV,AV.isSl,AV.isSlice,AV.rows,ps,pv,extV,extS,AV.outs,AV.outF,packD,AV.dl,fieldV,fieldS,AV.cells?,AV.upr,AV.menc,AV.one,D.one,Value.oneCell',tagOf,AV.isApp,strV,strS,bolV,bolS,slcV,AV.isSlD,asrtS,AV.dcells,D.cells?,stcV,stcS,leafOk,eqDs,eqD,packA,D.val?,↓reduceIte,reduceCtorEq,Nat.reduceAdd,Nat.reduceSub,Nat.reduceMul,List.reduceReplicate,Nat.reduceLeDiff,Nat.reduceLT,Nat.reduceBEq,Nat.reduceEqDiff,Int.reduceNeg,Int.reduceEq,Int.reduceLE,Int.reduceLT,tfb,ctz47,x47_48,p0]
  intro i hi
  by_cases hlt : i < l.length
  · have hlt' : (i : Int) < l.length := by omega
    have p1i := p1 i
    have pbi := pb (i + 1)
    have hwr : IntKind.i64.wrap (A i + beN (l.getD i default) t) = A i + beN (l.getD i default) t := wrap_ok (by omega) (by omega)
    simp (maxSteps := 4000000) +contextual (disch := first | omega | exact qdb_ok (by kernel_rfl) | exact okb_ok (by kernel_rfl)) only [bw1,bw2,bw3,bw4,bw5,bw6,bw7,bc0,bc1,bc2,bc3,bc4,bc5,bc6,bc7,setPs,AV.owns,AV.datF,AV.frz,AV.cpy,ifV,isEqB,nilV,nilX,AV.isNilS,AV.isNoRows,wk,dclo,datOf,binIs,addF,AV.isPtr,idxV,AV.isSl,AV.isSlice,AV.rows,ps,pv,extV,extS,AV.outs,AV.outF,packD,AV.dl,fieldV,fieldS,AV.cells?,AV.upr,AV.menc,AV.one,D.one,Value.oneCell',tagOf,AV.isApp,strV,strS,bolV,bolS,slcV,AV.isSlD,asrtS,AV.dcells,D.cells?,stcV,stcS,leafOk,eqDs,eqD,packA,D.val?,↓reduceIte,reduceCtorEq,Nat.reduceAdd,Nat.reduceSub,Nat.reduceMul,List.reduceReplicate,Nat.reduceLeDiff,Nat.reduceLT,Nat.reduceBEq,Nat.reduceEqDiff,Int.reduceNeg,Int.reduceEq,Int.reduceLE,Int.reduceLT,tfb,ctz47,x47_48,eq_self, hlt', p1i, hwr]
    and_intros <;> first | omega | rfl
  · have hlt' : ¬ (i : Int) < l.length := by omega
    obtain rfl : i = l.length := by omega
    simp (maxSteps := 4000000) +contextual (disch := first | omega | exact qdb_ok (by kernel_rfl) | exact okb_ok (by kernel_rfl)) only [bw1,bw2,bw3,bw4,bw5,bw6,bw7,bc0,bc1,bc2,bc3,bc4,bc5,bc6,bc7,setPs,AV.owns,AV.datF,AV.frz,AV.cpy,ifV,isEqB,nilV,nilX,AV.isNilS,AV.isNoRows,wk,dclo,datOf,binIs,addF,AV.isPtr,idxV,AV.isSl,AV.isSlice,AV.rows,ps,pv,extV,extS,AV.outs,AV.outF,packD,AV.dl,fieldV,fieldS,AV.cells?,AV.upr,AV.menc,AV.one,D.one,Value.oneCell',tagOf,AV.isApp,strV,strS,bolV,bolS,slcV,AV.isSlD,asrtS,AV.dcells,D.cells?,stcV,stcS,leafOk,eqDs,eqD,packA,D.val?,↓reduceIte,reduceCtorEq,Nat.reduceAdd,Nat.reduceSub,Nat.reduceMul,List.reduceReplicate,Nat.reduceLeDiff,Nat.reduceLT,Nat.reduceBEq,Nat.reduceEqDiff,Int.reduceNeg,Int.reduceEq,Int.reduceLE,Int.reduceLT,tfb,ctz47,x47_48,eq_self, hlt', Int.lt_irrefl]
def ent47 (o : Option (List D)) (K : AV → List AV → Sto → Prop) (i : At K) (e : List AV) (s : Sto) : Prop := entS (α := (List Sco) × (Sco)) (fun aa => [.sl 4 (aa.1.map Sco.c), .clo (.func 48) [] [.ptr aa.2.c 0]]) (fun aa => aa.1.length ≤ 1000) (fun aa => .i (bC aa.1 aa.2 aa.1.length)) o K i e s
theorem ent47_ok {args : List AV} {K : AV → List AV → Sto → Prop} {Q : Kt} {e : List AV} {s : Sto} (h : ent47 (AV.outs s args) K (mk _) e s) : pcall Try.prog 47 args K Q e s := entS_ok (fun aa h => pf47 aa.1 aa.2 h) h
theorem eq47 {l : List Sco} {t : Sco} {KK : AV → List AV → Sto → Prop} {ii : At KK} {ee : List AV} {ss : Sto} : ent47 (some [.sl 4 (l.map Sco.c), .clo (.func 48) [] [.ptr t.c 0]]) KK ii ee ss = ((l.length ≤ 1000) ∧ (.i (bC l t l.length) : D).flat = true ∧ KK (.d (.i (bC l t l.length))) ee ss) := by
  unfold ent47; rw [entS_iff (l, t) (by intro b h; simpa [Prod.ext_iff, and_assoc, Int.ofNat_inj, ints_inj, cals_inj, pcs_inj, skas_inj, scos_inj, ska_inj, rul_inj, sco_inj, cal_inj, ods_inj, od_inj, spns_inj] using h)] <;> simp
def O29 : Nat → Sch := fun id => .done
theorem ho29 : Try.f29.body.map (okO O29) = some true := by kernel_rfl
def Cf29 : Nat → List AV → (AV → List AV → Sto → Prop) → Kt → List AV → Sto → Prop := fun f args K Q e s => match f with
  | 47 => ent47 (AV.outs s args) K (mk _) e s
  | _ => False
def Ct29 : CT := { f := Cf29, y := noYld, z := fun d => false }
theorem ctz29 {d : Nat} : CT.z Ct29 d = (false) := id rfl
theorem Ct29_ok : Ct29.ok Try.prog := ok_of_f (fun f args K Q e s h => by
  have h : Cf29 f args K Q e s := h
  unfold Cf29 at h; split at h
  · exact ent47_ok h
  · exact h.elim) (fun _ _ _ _ _ _ _ _ _ h => h)
theorem x29_47 {args : List AV} {KK : AV → List AV → Sto → Prop} {QQ : Kt} {ii : At KK} {jj : At QQ} {ee : List AV} {ss : Sto} : xC Ct29 47 args KK QQ ii jj ee ss = ent47 (AV.outs ss args) KK (mk _) ee ss := id rfl
theorem c29 : callable Try.prog 29 = true := by kernel_rfl
theorem pf29 (l : List Sco) (h : l.length ≤ 1000000) : PFn Try.prog 29 [.sl 4 (l.map Sco.c)] (fun zz => zz = .ret (.tup [.sl 1 ((rkG l).1.map ic), .i (rkG l).2])) := by
  by_cases c : (40 : Int) < l.length
  · have hw : rkG l = ([], 3) := by unfold rkG; rw [if_pos c]
    rw [hw]
    refine PFn_nil (PFn_start (O := O29) Ct29_ok hmix ho29 Try.func29 c29 rfl Try.ntmps29 Try.results29 ?_)
    simp (maxSteps := 4000000) +contextual (disch := first | omega | exact qdb_ok (by kernel_rfl) | exact okb_ok (by kernel_rfl)) only [bw1,bw2,bw3,bw4,bw5,bw6,bw7,bc0,bc1,bc2,bc3,bc4,bc5,bc6,bc7,setPs,AV.owns,AV.datF,AV.frz,AV.cpy,ifV,isEqB,nilV,nilX,AV.isNilS,AV.isNoRows,wk,dclo,datOf,binIs,addF,AV.isPtr,idxV,AV.isSl,AV.isSlice,AV.rows,ps,pv,extV,extS,AV.outs,AV.outF,packD,AV.dl,fieldV,fieldS,AV.cells?,AV.upr,AV.menc,AV.one,D.one,Value.oneCell',tagOf,AV.isApp,strV,strS,bolV,bolS,slcV,AV.isSlD,asrtS,AV.dcells,D.cells?,stcV,stcS,leafOk,eqDs,eqD,packA,D.val?,↓reduceIte,reduceCtorEq,Nat.reduceAdd,Nat.reduceSub,Nat.reduceMul,List.reduceReplicate,Nat.reduceLeDiff,Nat.reduceLT,Nat.reduceBEq,Nat.reduceEqDiff,Int.reduceNeg,Int.reduceEq,Int.reduceLE,Int.reduceLT,tfb,n_retn,n_retr,n_retp,qd_Rn,AV.outN,fl_ic,D.flat,D.flats,ctz29,x29_47,eq47,c]
  have hw : rkG l = (rkR l l.length, 0) := by unfold rkG; rw [if_neg c]
  rw [hw]
  have hl : l.length ≤ 1000 := by omega
  have k0 : rkR l 0 = [] := rfl
  have k1 := fun k => rkR_succ (l := l) (k := k)
  have kl := fun k => rkR_len (l := l) (k := k)
  have hb := fun t => bC_b (l := l) (t := t) l.length
  refine PFn_nil (PFn_start (O := O29) Ct29_ok hmix ho29 Try.func29 c29 rfl Try.ntmps29 Try.results29 ?_)
  simp (maxSteps := 4000000) +contextual (disch := first | omega | exact qdb_ok (by kernel_rfl) | exact okb_ok (by kernel_rfl)) only [bw1,bw2,bw3,bw4,bw5,bw6,bw7,bc0,bc1,bc2,bc3,bc4,bc5,bc6,bc7,setPs,AV.owns,AV.datF,AV.frz,AV.cpy,ifV,isEqB,nilV,nilX,AV.isNilS,AV.isNoRows,wk,dclo,datOf,binIs,addF,AV.isPtr,idxV,AV.isSl,AV.isSlice,AV.rows,ps,pv,extV,extS,AV.outs,AV.outF,packD,AV.dl,fieldV,fieldS,AV.cells?,AV.upr,AV.menc,AV.one,D.one,Value.oneCell',tagOf,AV.isApp,strV,strS,bolV,bolS,slcV,AV.isSlD,asrtS,AV.dcells,D.cells?,stcV,stcS,leafOk,eqDs,eqD,packA,D.val?,↓reduceIte,reduceCtorEq,Nat.reduceAdd,Nat.reduceSub,Nat.reduceMul,List.reduceReplicate,Nat.reduceLeDiff,Nat.reduceLT,Nat.reduceBEq,Nat.reduceEqDiff,Int.reduceNeg,Int.reduceEq,Int.reduceLE,Int.reduceLT,tfb,n_retn,n_retr,n_retp,qd_Rn,AV.outN,fl_ic,D.flat,D.flats,ctz29,x29_47,eq47,c]
  refine seed (m1 := mk _) (m2 := mk _) 4 23 3 1 (by decide) rfl rfl (by simp [Sto.mens, AV.mens, AV.men]) rfl ?_
  refine loop_u (O := O29) (tb := 0) Ct29_ok hmix (by kernel_rfl) (σ := Nat) (fun k => [(4, .own 23 3 1 ((rkR l k).map ic)), (6, .any), (12, .i k)]) (fun k => []) (fun k => k ≤ l.length) (fun k => l.length - k) (fun k => k + 1) 0 (by omega) ?_ ?_
  · simp (maxSteps := 4000000) +contextual (disch := first | omega | exact qdb_ok (by kernel_rfl) | exact okb_ok (by kernel_rfl)) only [bw1,bw2,bw3,bw4,bw5,bw6,bw7,bc0,bc1,bc2,bc3,bc4,bc5,bc6,bc7,setPs,AV.owns,AV.datF,AV.frz,AV.cpy,ifV,isEqB,nilV,nilX,AV.isNilS,AV.isNoRows,wk,dclo,datOf,binIs,addF,AV.isPtr,idxV,AV.isSl,AV.isSlice,AV.rows,ps,pv,extV,extS,AV.outs,AV.outF,packD,AV.dl,fieldV,fieldS,AV.cells?,AV.upr,AV.menc,AV.one,D.one,Value.oneCell',tagOf,AV.isApp,strV,strS,bolV,bolS,slcV,AV.isSlD,asrtS,AV.dcells,D.cells?,stcV,stcS,leafOk,eqDs,eqD,packA,D.val?,↓reduceIte,reduceCtorEq,Nat.reduceAdd,Nat.reduceSub,Nat.reduceMul,List.reduceReplicate,Nat.reduceLeDiff,Nat.reduceLT,Nat.reduceBEq,Nat.reduceEqDiff,Int.reduceNeg,Int.reduceEq,Int.reduceLE,Int.reduceLT,tfb,n_retn,n_retr,n_retp,qd_Rn,AV.outN,fl_ic,D.flat,D.flats,ctz29,x29_47,eq47,eq_self, k0]
  intro k hk
  by_cases hlt : k < l.length
  · have hlt' : (k : Int) < l.length := by omega
    have k1k := k1 k
    have hbk := hb (l.getD k default)
    have hwr : IntKind.i64.wrap (1 + bC l (l.getD k default) l.length) = 1 + bC l (l.getD k default) l.length := wrap_ok (by omega) (by omega)
    simp (maxSteps := 4000000) +contextual (disch := first | omega | exact qdb_ok (by kernel_rfl) | exact okb_ok (by kernel_rfl)) only [bw1,bw2,bw3,bw4,bw5,bw6,bw7,bc0,bc1,bc2,bc3,bc4,bc5,bc6,bc7,setPs,AV.owns,AV.datF,AV.frz,AV.cpy,ifV,isEqB,nilV,nilX,AV.isNilS,AV.isNoRows,wk,dclo,datOf,binIs,addF,AV.isPtr,idxV,AV.isSl,AV.isSlice,AV.rows,ps,pv,extV,extS,AV.outs,AV.outF,packD,AV.dl,fieldV,fieldS,AV.cells?,AV.upr,AV.menc,AV.one,D.one,Value.oneCell',tagOf,AV.isApp,strV,strS,bolV,bolS,slcV,AV.isSlD,asrtS,AV.dcells,D.cells?,stcV,stcS,leafOk,eqDs,eqD,packA,D.val?,↓reduceIte,reduceCtorEq,Nat.reduceAdd,Nat.reduceSub,Nat.reduceMul,List.reduceReplicate,Nat.reduceLeDiff,Nat.reduceLT,Nat.reduceBEq,Nat.reduceEqDiff,Int.reduceNeg,Int.reduceEq,Int.reduceLE,Int.reduceLT,tfb,n_retn,n_retr,n_retp,qd_Rn,AV.outN,fl_ic,D.flat,D.flats,ctz29,x29_47,eq47,eq_self, hlt', hwr, kl, hl, List.length_map]
    refine ⟨by omega, by omega, by omega, by omega, ?_⟩
    rw [k1k, List.map_append]; rfl
  have hlt' : ¬ (k : Int) < l.length := by omega
  obtain rfl : k = l.length := by omega
  simp (maxSteps := 4000000) +contextual (disch := first | omega | exact qdb_ok (by kernel_rfl) | exact okb_ok (by kernel_rfl)) only [bw1,bw2,bw3,bw4,bw5,bw6,bw7,bc0,bc1,bc2,bc3,bc4,bc5,bc6,bc7,setPs,AV.owns,AV.datF,AV.frz,AV.cpy,ifV,isEqB,nilV,nilX,AV.isNilS,AV.isNoRows,wk,dclo,datOf,binIs,addF,AV.isPtr,idxV,AV.isSl,AV.isSlice,AV.rows,ps,pv,extV,extS,AV.outs,AV.outF,packD,AV.dl,fieldV,fieldS,AV.cells?,AV.upr,AV.menc,AV.one,D.one,Value.oneCell',tagOf,AV.isApp,strV,strS,bolV,bolS,slcV,AV.isSlD,asrtS,AV.dcells,D.cells?,stcV,stcS,leafOk,eqDs,eqD,packA,D.val?,↓reduceIte,reduceCtorEq,Nat.reduceAdd,Nat.reduceSub,Nat.reduceMul,List.reduceReplicate,Nat.reduceLeDiff,Nat.reduceLT,Nat.reduceBEq,Nat.reduceEqDiff,Int.reduceNeg,Int.reduceEq,Int.reduceLE,Int.reduceLT,tfb,n_retn,n_retr,n_retp,qd_Rn,AV.outN,fl_ic,D.flat,D.flats,ctz29,x29_47,eq47,eq_self, hlt', Int.lt_irrefl]
def ent29 (args : List AV) (K : AV → List AV → Sto → Prop) (e : List AV) (s : Sto) : Prop := entn (α := (List Sco)) (fun aa => [.sl 4 (aa.map Sco.c)]) (fun aa => aa.length ≤ 1000000) (fun aa => .tup [.sl 1 ((rkG aa).1.map ic), .i (rkG aa).2]) args K e s
theorem ent29_ok {args : List AV} {K : AV → List AV → Sto → Prop} {Q : Kt} {e : List AV} {s : Sto} (h : ent29 args K e s) : pcall Try.prog 29 args K Q e s := entn_ok (fun aa h => pf29 aa h) h
theorem eq29 {l : List Sco} {KK : AV → List AV → Sto → Prop} {ee : List AV} {ss : Sto} : ent29 [.d (.sl 4 (l.map Sco.c))] KK ee ss = ((l.length ≤ 1000000) ∧ KK (.d (.tup [.sl 1 ((rkG l).1.map ic), .i (rkG l).2])) ee ss) := by
  unfold ent29; rw [entn_iff l (by intro b h; simpa [Prod.ext_iff, and_assoc, Int.ofNat_inj, ints_inj, cals_inj, pcs_inj, skas_inj, scos_inj, ska_inj, rul_inj, sco_inj, cal_inj, ods_inj, od_inj, spns_inj] using h) rfl] <;> simp
theorem eqo29 {l : List Sco} {g1 el1 : Nat} {KK : AV → List AV → Sto → Prop} {ee : List AV} {ss : Sto} : ent29 [.own g1 el1 4 (l.map Sco.c)] KK ee ss = ((l.length ≤ 1000000) ∧ KK (.d (.tup [.sl 1 ((rkG l).1.map ic), .i (rkG l).2])) ee ss) := by
  unfold ent29; rw [entn_iff l (by intro b h; simpa [Prod.ext_iff, and_assoc, Int.ofNat_inj, ints_inj, cals_inj, pcs_inj, skas_inj, scos_inj, ska_inj, rul_inj, sco_inj, cal_inj, ods_inj, od_inj, spns_inj] using h) rfl] <;> simp
end Go.Proofs.Ytapglfcaghlpfaa
