/- A part of the proof that the last text ends: what functions of the program do, told by plain data. -/
import Derived.Test.YtmajlffglplcnaaDoorNB
set_option linter.unusedVariables false
set_option linter.unusedSimpArgs false
namespace Go.Proofs.YtmajlffglplcnaaDoor
open Go Go.E Go.Maps
set_option maxRecDepth 100000
set_option maxHeartbeats 16000000
theorem lg_no {l : Lea} {m : Int} (h : ¬ lgB l m = true) : l.far.length ≤ 9 ∧ l.games.length ≤ 68 := by
  unfold lgB at h
  split at h
  · exact absurd rfl h
  · rename_i h1
    simp only [Bool.or_eq_true, decide_eq_true_eq, not_or] at h1
    omega
def sp10 (args : List AV) (K : AV → List AV → Sto → Prop) (e : List AV) (s : Sto) : Prop := args = [] ∧ s.get 5000000000 = some [.d (.ptr gpt 0)] ∧ K (.d (.b true)) e s
theorem sp10_ok {args : List AV} {K : AV → List AV → Sto → Prop} {Q : Kt} {e : List AV} {s : Sto} (h : sp10 args K e s) : pcall Tryd.prog 10 args K Q e s := by
  obtain ⟨rfl, h1, h2⟩ := h
  exact pcall_sG pf10 h1 rfl (fun d hd => by cases hd; exact ⟨rfl, h2⟩) (fun c hc => by cases hc)
def O3 : Nat → Sch := fun id => .done
theorem ho3 : Tryd.f3.body.map (okO O3) = some true := by kernel_rfl
def Cf3 : Nat → List AV → (AV → List AV → Sto → Prop) → Kt → List AV → Sto → Prop := fun f args K Q e s => match f with
  | 9 => ent9 args K e s
  | 10 => sp10 args K e s
  | 11 => ent11 args K e s
  | 12 => ent12 args K e s
  | 13 => ent13 args K e s
  | 14 => ent14 args K e s
  | 15 => sp15 args K e s
  | 16 => ent16 args K e s
  | 17 => ent17 args K e s
  | _ => False
def Ct3 : CT := { f := Cf3, y := noYld, z := fun d => false }
theorem ctz3 {d : Nat} : CT.z Ct3 d = (false) := id rfl
theorem Ct3_ok : Ct3.ok Tryd.prog := ok_of_f (fun f args K Q e s h => by
  have h : Cf3 f args K Q e s := h
  unfold Cf3 at h; split at h
  · exact ent9_ok h
  · exact sp10_ok h
  · exact ent11_ok h
  · exact ent12_ok h
  · exact ent13_ok h
  · exact ent14_ok h
  · exact sp15_ok h
  · exact ent16_ok h
  · exact ent17_ok h
  · exact h.elim) (fun _ _ _ _ _ _ _ _ _ h => h)
theorem x3_9 {l : Lea} {m : Int} {KK : AV → List AV → Sto → Prop} {QQ : Kt} {ii : At KK} {jj : At QQ} {ee : List AV} {ss : Sto} : xC Ct3 9 [.d (.agg l.c), .d (.i m)] KK QQ ii jj ee ss = (KK (.d (.b (lgB l m))) ee ss) := eq9
theorem x3_11 {l : Lea} {KK : AV → List AV → Sto → Prop} {QQ : Kt} {ii : At KK} {jj : At QQ} {ee : List AV} {ss : Sto} : xC Ct3 11 [.d (.agg l.c)] KK QQ ii jj ee ss = ((l.far.length ≤ 1000) ∧ KK (.d (.tup [.i (lgR l).1, .i (lgR l).2])) ee ss) := eq11
theorem x3_12 {l : Lea} {KK : AV → List AV → Sto → Prop} {QQ : Kt} {ii : At KK} {jj : At QQ} {ee : List AV} {ss : Sto} : xC Ct3 12 [.d (.agg l.c)] KK QQ ii jj ee ss = ((l.far.length ≤ 1000) ∧ KK (.d (.tup [.i (lgR l).1, .i (lgR l).2])) ee ss) := eq12
theorem x3_13 {l : Lea} {t : Int} {KK : AV → List AV → Sto → Prop} {QQ : Kt} {ii : At KK} {jj : At QQ} {ee : List AV} {ss : Sto} : xC Ct3 13 [.d (.agg l.c), .d (.i t)] KK QQ ii jj ee ss = ((l.far.length ≤ 1000) ∧ KK (.d (.tup [.i (trR l t).1, .i (trR l t).2])) ee ss) := eq13
theorem x3_14 {l : Lea} {t : Int} {KK : AV → List AV → Sto → Prop} {QQ : Kt} {ii : At KK} {jj : At QQ} {ee : List AV} {ss : Sto} : xC Ct3 14 [.d (.agg l.c), .d (.i t)] KK QQ ii jj ee ss = ((l.far.length ≤ 1000) ∧ KK (.d (.tup [.i (trR l t).1, .i (trR l t).2])) ee ss) := eq14
theorem x3_16 {l : Lea} {KK : AV → List AV → Sto → Prop} {QQ : Kt} {ii : At KK} {jj : At QQ} {ee : List AV} {ss : Sto} : xC Ct3 16 [.d (.agg l.c)] KK QQ ii jj ee ss = ((l.far.length ≤ 1000) ∧ KK (.d (.tup [.sl 5 ((tbR l).1.map Std.c), .i (tbR l).2])) ee ss) := eq16
theorem x3_17 {a : List Std} {b : List Std} {KK : AV → List AV → Sto → Prop} {QQ : Kt} {ii : At KK} {jj : At QQ} {ee : List AV} {ss : Sto} : xC Ct3 17 [.d (.sl 5 (a.map Std.c)), .d (.sl 5 (b.map Std.c))] KK QQ ii jj ee ss = ((a.length ≤ 1000) ∧ KK (.d (.b (decide (a = b)))) ee ss) := eq17
theorem x3_17_m1 {a : List Std} {b : List Std} {g1 el1 : Nat} {KK : AV → List AV → Sto → Prop} {QQ : Kt} {ii : At KK} {jj : At QQ} {ee : List AV} {ss : Sto} : xC Ct3 17 [.own g1 el1 5 (a.map Std.c), .d (.sl 5 (b.map Std.c))] KK QQ ii jj ee ss = ((a.length ≤ 1000) ∧ (.b (decide (a = b)) : D).flat = true ∧ KK (.d (.b (decide (a = b)))) ee ss) := by
  show ent17 _ _ _ _ = _
  unfold ent17; rw [ent_iff (a, b) (by intro b h; simpa [Prod.ext_iff, and_assoc, Int.ofNat_inj, ints_inj, gams_inj, fars_inj, gam_inj, lea_inj, Int.ofNat_inj, ints_inj, gams_inj, fars_inj, gam_inj, lea_inj, stds_inj, std_inj, Int.ofNat_inj, ints_inj, gams_inj, fars_inj, gam_inj, lea_inj, Int.ofNat_inj, ints_inj, gams_inj, fars_inj, gam_inj, lea_inj, Int.ofNat_inj, ints_inj, gams_inj, fars_inj, gam_inj, lea_inj, stds_inj, std_inj, Int.ofNat_inj, ints_inj, gams_inj, fars_inj, gam_inj, lea_inj, tv_inj, ocs_inj, row_inj, Int.ofNat_inj, ints_inj, gams_inj, fars_inj, gam_inj, lea_inj, Int.ofNat_inj, ints_inj, gams_inj, fars_inj, gam_inj, lea_inj, stds_inj, std_inj, Int.ofNat_inj, ints_inj, gams_inj, fars_inj, gam_inj, lea_inj, Int.ofNat_inj, ints_inj, gams_inj, fars_inj, gam_inj, lea_inj, Int.ofNat_inj, ints_inj, gams_inj, fars_inj, gam_inj, lea_inj, stds_inj, std_inj, Int.ofNat_inj, ints_inj, gams_inj, fars_inj, gam_inj, lea_inj, tv_inj, ocs_inj, row_inj] using h) rfl]; simp
theorem x3_17_m2 {a : List Std} {b : List Std} {g1 el1 : Nat} {KK : AV → List AV → Sto → Prop} {QQ : Kt} {ii : At KK} {jj : At QQ} {ee : List AV} {ss : Sto} : xC Ct3 17 [.d (.sl 5 (a.map Std.c)), .own g1 el1 5 (b.map Std.c)] KK QQ ii jj ee ss = ((a.length ≤ 1000) ∧ (.b (decide (a = b)) : D).flat = true ∧ KK (.d (.b (decide (a = b)))) ee ss) := by
  show ent17 _ _ _ _ = _
  unfold ent17; rw [ent_iff (a, b) (by intro b h; simpa [Prod.ext_iff, and_assoc, Int.ofNat_inj, ints_inj, gams_inj, fars_inj, gam_inj, lea_inj, Int.ofNat_inj, ints_inj, gams_inj, fars_inj, gam_inj, lea_inj, stds_inj, std_inj, Int.ofNat_inj, ints_inj, gams_inj, fars_inj, gam_inj, lea_inj, Int.ofNat_inj, ints_inj, gams_inj, fars_inj, gam_inj, lea_inj, Int.ofNat_inj, ints_inj, gams_inj, fars_inj, gam_inj, lea_inj, stds_inj, std_inj, Int.ofNat_inj, ints_inj, gams_inj, fars_inj, gam_inj, lea_inj, tv_inj, ocs_inj, row_inj, Int.ofNat_inj, ints_inj, gams_inj, fars_inj, gam_inj, lea_inj, Int.ofNat_inj, ints_inj, gams_inj, fars_inj, gam_inj, lea_inj, stds_inj, std_inj, Int.ofNat_inj, ints_inj, gams_inj, fars_inj, gam_inj, lea_inj, Int.ofNat_inj, ints_inj, gams_inj, fars_inj, gam_inj, lea_inj, Int.ofNat_inj, ints_inj, gams_inj, fars_inj, gam_inj, lea_inj, stds_inj, std_inj, Int.ofNat_inj, ints_inj, gams_inj, fars_inj, gam_inj, lea_inj, tv_inj, ocs_inj, row_inj] using h) rfl]; simp
theorem x3_17_m3 {a : List Std} {b : List Std} {g1 el1 : Nat} {g2 el2 : Nat} {KK : AV → List AV → Sto → Prop} {QQ : Kt} {ii : At KK} {jj : At QQ} {ee : List AV} {ss : Sto} : xC Ct3 17 [.own g1 el1 5 (a.map Std.c), .own g2 el2 5 (b.map Std.c)] KK QQ ii jj ee ss = ((a.length ≤ 1000) ∧ (.b (decide (a = b)) : D).flat = true ∧ KK (.d (.b (decide (a = b)))) ee ss) := eqo17
theorem c3 : callable Tryd.prog 3 = true := by kernel_rfl
theorem pf3 (l : Lea) (t : Int) : PFG Tryd.prog 3 0 gpt [.agg l.c, .i t] (fun zz => zz = .ret (.b true)) := by
  have hx10 : ∀ {args : List AV} {KK : AV → List AV → Sto → Prop} {QQ : Kt} {ii : At KK} {jj : At QQ} {ee : List AV} {ss : Sto}, xC Ct3 10 args KK QQ ii jj ee ss = sp10 args KK ee ss := id rfl
  have hx15 : ∀ {args : List AV} {KK : AV → List AV → Sto → Prop} {QQ : Kt} {ii : At KK} {jj : At QQ} {ee : List AV} {ss : Sto}, xC Ct3 15 args KK QQ ii jj ee ss = sp15 args KK ee ss := id rfl
  refine PFG_nil (PFG_start (O := O3) Ct3_ok hmix ho3 Tryd.func3 c3 rfl Tryd.ntmps3 Tryd.results3 ?_)
  by_cases c0 : lgB l 8 = true
  · simp (maxSteps := 4000000) +contextual (disch := first | omega | exact qdb_ok (by kernel_rfl) | exact okb_ok (by kernel_rfl)) only [bw1,bw2,bw3,bw4,bw5,bw6,bw7,bc0,bc1,bc2,bc3,bc4,bc5,bc6,bc7,bb0,setPs,AV.owns,AV.datF,AV.frz,AV.cpy,ifV,isEqB,nilV,nilX,AV.isNilS,AV.isNoRows,wk,dclo,datOf,binIs,addF,AV.isPtr,idxV,AV.isSl,AV.isSlice,AV.rows,ps,pv,extV,extS,AV.outs,AV.outF,packD,AV.dl,fieldV,fieldS,AV.cells?,AV.upr,AV.menc,AV.one,D.one,Value.oneCell',tagOf,AV.isApp,strV,strS,bolV,bolS,slcV,AV.isSlD,asrtS,AV.dcells,D.cells?,stcV,stcS,leafOk,eqDs,eqD,packA,D.val?,↓reduceIte,reduceCtorEq,Nat.reduceAdd,Nat.reduceSub,Nat.reduceMul,List.reduceReplicate,Nat.reduceLeDiff,Nat.reduceLT,Nat.reduceBEq,Nat.reduceEqDiff,Int.reduceNeg,Int.reduceEq,Int.reduceLE,Int.reduceLT,tfb,D.flat,D.flats,av_glob,n_seq,on_s,ctz3,x3_9,x3_11,x3_12,x3_13,x3_14,x3_16,x3_17,x3_17_m1,x3_17_m2,x3_17_m3,c0, hx10]
    refine ⟨rfl, rfl, ?_⟩
    simp (maxSteps := 4000000) +contextual (disch := first | omega | exact qdb_ok (by kernel_rfl) | exact okb_ok (by kernel_rfl)) only [bw1,bw2,bw3,bw4,bw5,bw6,bw7,bc0,bc1,bc2,bc3,bc4,bc5,bc6,bc7,bb0,setPs,AV.owns,AV.datF,AV.frz,AV.cpy,ifV,isEqB,nilV,nilX,AV.isNilS,AV.isNoRows,wk,dclo,datOf,binIs,addF,AV.isPtr,idxV,AV.isSl,AV.isSlice,AV.rows,ps,pv,extV,extS,AV.outs,AV.outF,packD,AV.dl,fieldV,fieldS,AV.cells?,AV.upr,AV.menc,AV.one,D.one,Value.oneCell',tagOf,AV.isApp,strV,strS,bolV,bolS,slcV,AV.isSlD,asrtS,AV.dcells,D.cells?,stcV,stcS,leafOk,eqDs,eqD,packA,D.val?,↓reduceIte,reduceCtorEq,Nat.reduceAdd,Nat.reduceSub,Nat.reduceMul,List.reduceReplicate,Nat.reduceLeDiff,Nat.reduceLT,Nat.reduceBEq,Nat.reduceEqDiff,Int.reduceNeg,Int.reduceEq,Int.reduceLE,Int.reduceLT,tfb,D.flat,D.flats,av_glob,n_seq,on_s,ctz3,x3_9,x3_11,x3_12,x3_13,x3_14,x3_16,x3_17,x3_17_m1,x3_17_m2,x3_17_m3,eq_self]
  have c0b : lgB l 8 = false := by simpa using c0
  have hl := lg_no c0
  have hf : l.far.length ≤ 1000 := by omega
  have ht : (tbR l).1.length ≤ 1000 := by
    unfold tbR tabR
    split
    · show (tbN _ _ _).length ≤ 1000
      rw [tbN_len]; exact hf
    · simp
  simp (maxSteps := 4000000) +contextual (disch := first | omega | exact qdb_ok (by kernel_rfl) | exact okb_ok (by kernel_rfl)) only [bw1,bw2,bw3,bw4,bw5,bw6,bw7,bc0,bc1,bc2,bc3,bc4,bc5,bc6,bc7,bb0,setPs,AV.owns,AV.datF,AV.frz,AV.cpy,ifV,isEqB,nilV,nilX,AV.isNilS,AV.isNoRows,wk,dclo,datOf,binIs,addF,AV.isPtr,idxV,AV.isSl,AV.isSlice,AV.rows,ps,pv,extV,extS,AV.outs,AV.outF,packD,AV.dl,fieldV,fieldS,AV.cells?,AV.upr,AV.menc,AV.one,D.one,Value.oneCell',tagOf,AV.isApp,strV,strS,bolV,bolS,slcV,AV.isSlD,asrtS,AV.dcells,D.cells?,stcV,stcS,leafOk,eqDs,eqD,packA,D.val?,↓reduceIte,reduceCtorEq,Nat.reduceAdd,Nat.reduceSub,Nat.reduceMul,List.reduceReplicate,Nat.reduceLeDiff,Nat.reduceLT,Nat.reduceBEq,Nat.reduceEqDiff,Int.reduceNeg,Int.reduceEq,Int.reduceLE,Int.reduceLT,tfb,D.flat,D.flats,av_glob,n_seq,on_s,ctz3,x3_9,x3_11,x3_12,x3_13,x3_14,x3_16,x3_17,x3_17_m1,x3_17_m2,x3_17_m3,c0b, hx15, hf]
  refine ⟨l, hf, rfl, rfl, ?_⟩
  simp (maxSteps := 4000000) +contextual (disch := first | omega | exact qdb_ok (by kernel_rfl) | exact okb_ok (by kernel_rfl)) only [bw1,bw2,bw3,bw4,bw5,bw6,bw7,bc0,bc1,bc2,bc3,bc4,bc5,bc6,bc7,bb0,setPs,AV.owns,AV.datF,AV.frz,AV.cpy,ifV,isEqB,nilV,nilX,AV.isNilS,AV.isNoRows,wk,dclo,datOf,binIs,addF,AV.isPtr,idxV,AV.isSl,AV.isSlice,AV.rows,ps,pv,extV,extS,AV.outs,AV.outF,packD,AV.dl,fieldV,fieldS,AV.cells?,AV.upr,AV.menc,AV.one,D.one,Value.oneCell',tagOf,AV.isApp,strV,strS,bolV,bolS,slcV,AV.isSlD,asrtS,AV.dcells,D.cells?,stcV,stcS,leafOk,eqDs,eqD,packA,D.val?,↓reduceIte,reduceCtorEq,Nat.reduceAdd,Nat.reduceSub,Nat.reduceMul,List.reduceReplicate,Nat.reduceLeDiff,Nat.reduceLT,Nat.reduceBEq,Nat.reduceEqDiff,Int.reduceNeg,Int.reduceEq,Int.reduceLE,Int.reduceLT,tfb,D.flat,D.flats,av_glob,n_seq,on_s,ctz3,x3_9,x3_11,x3_12,x3_13,x3_14,x3_16,x3_17,x3_17_m1,x3_17_m2,x3_17_m3,hf, hx10, ht, eq_self]
  refine ⟨rfl, rfl, ?_⟩
  simp (maxSteps := 4000000) +contextual (disch := first | omega | exact qdb_ok (by kernel_rfl) | exact okb_ok (by kernel_rfl)) only [bw1,bw2,bw3,bw4,bw5,bw6,bw7,bc0,bc1,bc2,bc3,bc4,bc5,bc6,bc7,bb0,setPs,AV.owns,AV.datF,AV.frz,AV.cpy,ifV,isEqB,nilV,nilX,AV.isNilS,AV.isNoRows,wk,dclo,datOf,binIs,addF,AV.isPtr,idxV,AV.isSl,AV.isSlice,AV.rows,ps,pv,extV,extS,AV.outs,AV.outF,packD,AV.dl,fieldV,fieldS,AV.cells?,AV.upr,AV.menc,AV.one,D.one,Value.oneCell',tagOf,AV.isApp,strV,strS,bolV,bolS,slcV,AV.isSlD,asrtS,AV.dcells,D.cells?,stcV,stcS,leafOk,eqDs,eqD,packA,D.val?,↓reduceIte,reduceCtorEq,Nat.reduceAdd,Nat.reduceSub,Nat.reduceMul,List.reduceReplicate,Nat.reduceLeDiff,Nat.reduceLT,Nat.reduceBEq,Nat.reduceEqDiff,Int.reduceNeg,Int.reduceEq,Int.reduceLE,Int.reduceLT,tfb,D.flat,D.flats,av_glob,n_seq,on_s,ctz3,x3_9,x3_11,x3_12,x3_13,x3_14,x3_16,x3_17,x3_17_m1,x3_17_m2,x3_17_m3,eq_self]
theorem c4 : callable Tryd.prog 4 = true := by kernel_rfl
end Go.Proofs.YtmajlffglplcnaaDoor
