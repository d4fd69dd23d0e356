/- A part of the proof that the last text ends: what functions of the program do, told by plain data. -/
import Derived.Test.YtmajlffglplcnaaDoorNC
import Derived.Test.YtmajlffglplcnaaDoorNR
set_option linter.unusedVariables false
set_option linter.unusedSimpArgs false
namespace Go.Proofs.YtmajlffglplcnaaDoor
open Go Go.E Go.Maps
set_option maxRecDepth 100000
set_option maxHeartbeats 16000000
theorem plyN_yes {l : List Gam} {u k : Nat} (h : ¬ (l.getD ((k + u) % l.length) default).fin = 0) : plyN l u (k + 1) = plyN l u k + 1 := by
  unfold plyN
  rw [othN_succ, List.countP_append]
  have : (turG (l.getD ((k + u) % l.length) default) (k + u)).fin = (l.getD ((k + u) % l.length) default).fin := by unfold turG; split <;> rfl
  rw [List.countP_singleton, this, if_pos (by rw [decide_eq_false h]; rfl)]
theorem plyN_no {l : List Gam} {u k : Nat} (h : (l.getD ((k + u) % l.length) default).fin = 0) : plyN l u (k + 1) = plyN l u k := by
  unfold plyN
  rw [othN_succ, List.countP_append]
  have : (turG (l.getD ((k + u) % l.length) default) (k + u)).fin = (l.getD ((k + u) % l.length) default).fin := by unfold turG; split <;> rfl
  rw [List.countP_singleton, this, if_neg (by rw [decide_eq_true h]; simp)]; rfl
theorem plyN_le {l : List Gam} {u k : Nat} : plyN l u k ≤ k := by
  unfold plyN; exact Nat.le_trans List.countP_le_length (by rw [othN_len]; exact Nat.le_refl _)
theorem tk_step {T : List Std} {k : Nat} (h : k < T.length) : ptT T (k + 1) = ptT T k + (T.getD k default).pts ∧ gmT T (k + 1) = gmT T k + (T.getD k default).games ∧ glT T (k + 1) = glT T k + ((T.getD k default).gf - (T.getD k default).ga) := by
  unfold ptT gmT glT
  exact ⟨tk_succ h, tk_succ h, tk_succ h⟩
def O6 : Nat → Sch := fun id => if id = 13 then .one 0 (.one 1 (.one 2 (.one 3 (.one 4 (.one 5 (.one 6 (.one 7 (.one 8 (.one 9 (.one 10 (.one 11 (.one 12 (.one 13 (.one 14 (.one 15 (.one 16 (.one 17 (.one 18 (.one 19 (.one 20 (.one 21 (.one 22 (.one 23 (.one 24 (.done))))))))))))))))))))))))) else if id = 24 then .one 0 (.one 2 (.one 3 (.one 4 (.one 5 (.one 6 (.alt (.one 1 (.alt (.one 7 (.one 8 (.one 9 (.one 10 (.alt (.one 11 (.one 12 (.one 13 (.done)))) (.one 12 (.one 11 (.one 13 (.done))))))))) (.one 12 (.one 7 (.one 8 (.one 9 (.one 10 (.one 11 (.one 13 (.done)))))))))) (.alt (.one 7 (.one 8 (.one 9 (.alt (.one 1 (.one 10 (.alt (.one 11 (.one 12 (.one 13 (.done)))) (.one 12 (.one 11 (.one 13 (.done))))))) (.one 12 (.one 1 (.one 10 (.one 11 (.one 13 (.done)))))))))) (.one 12 (.one 1 (.one 7 (.one 8 (.one 9 (.one 10 (.one 11 (.one 13 (.done)))))))))))))))) else .done
theorem O6_13 : O6 13 = .one 0 (.one 1 (.one 2 (.one 3 (.one 4 (.one 5 (.one 6 (.one 7 (.one 8 (.one 9 (.one 10 (.one 11 (.one 12 (.one 13 (.one 14 (.one 15 (.one 16 (.one 17 (.one 18 (.one 19 (.one 20 (.one 21 (.one 22 (.one 23 (.one 24 (.done))))))))))))))))))))))))) := rfl
theorem O6_24 : O6 24 = .one 0 (.one 2 (.one 3 (.one 4 (.one 5 (.one 6 (.alt (.one 1 (.alt (.one 7 (.one 8 (.one 9 (.one 10 (.alt (.one 11 (.one 12 (.one 13 (.done)))) (.one 12 (.one 11 (.one 13 (.done))))))))) (.one 12 (.one 7 (.one 8 (.one 9 (.one 10 (.one 11 (.one 13 (.done)))))))))) (.alt (.one 7 (.one 8 (.one 9 (.alt (.one 1 (.one 10 (.alt (.one 11 (.one 12 (.one 13 (.done)))) (.one 12 (.one 11 (.one 13 (.done))))))) (.one 12 (.one 1 (.one 10 (.one 11 (.one 13 (.done)))))))))) (.one 12 (.one 1 (.one 7 (.one 8 (.one 9 (.one 10 (.one 11 (.one 13 (.done)))))))))))))))) := rfl
theorem ho6 : Tryd.f6.body.map (okO O6) = some true := by kernel_rfl
def Cf6 : Nat → List AV → (AV → List AV → Sto → Prop) → Kt → List AV → Sto → Prop := fun f args K Q e s => match f with
  | 9 => ent9 args K e s
  | 10 => sp10 args K e s
  | 15 => sp15 args K e s
  | 17 => ent17 args K e s
  | 22 => ent22 args K e s
  | _ => False
def Ct6 : CT := { f := Cf6, y := noYld, z := fun d => false }
theorem ctz6 {d : Nat} : CT.z Ct6 d = (false) := id rfl
theorem Ct6_ok : Ct6.ok Tryd.prog := ok_of_f (fun f args K Q e s h => by
  have h : Cf6 f args K Q e s := h
  unfold Cf6 at h; split at h
  · exact ent9_ok h
  · exact sp10_ok h
  · exact sp15_ok h
  · exact ent17_ok h
  · exact ent22_ok h
  · exact h.elim) (fun _ _ _ _ _ _ _ _ _ h => h)
theorem x6_9 {l : Lea} {m : Int} {KK : AV → List AV → Sto → Prop} {QQ : Kt} {ii : At KK} {jj : At QQ} {ee : List AV} {ss : Sto} : xC Ct6 9 [.d (.agg l.c), .d (.i m)] KK QQ ii jj ee ss = (KK (.d (.b (lgB l m))) ee ss) := eq9
theorem x6_17 {a : List Std} {b : List Std} {KK : AV → List AV → Sto → Prop} {QQ : Kt} {ii : At KK} {jj : At QQ} {ee : List AV} {ss : Sto} : xC Ct6 17 [.d (.sl 5 (a.map Std.c)), .d (.sl 5 (b.map Std.c))] KK QQ ii jj ee ss = ((a.length ≤ 1000) ∧ KK (.d (.b (decide (a = b)))) ee ss) := eq17
theorem x6_17_m1 {a : List Std} {b : List Std} {g1 el1 : Nat} {KK : AV → List AV → Sto → Prop} {QQ : Kt} {ii : At KK} {jj : At QQ} {ee : List AV} {ss : Sto} : xC Ct6 17 [.own g1 el1 5 (a.map Std.c), .d (.sl 5 (b.map Std.c))] KK QQ ii jj ee ss = ((a.length ≤ 1000) ∧ (.b (decide (a = b)) : D).flat = true ∧ KK (.d (.b (decide (a = b)))) ee ss) := by
  show ent17 _ _ _ _ = _
  unfold ent17; rw [ent_iff (a, b) (by intro b h; simpa [Prod.ext_iff, and_assoc, Int.ofNat_inj, ints_inj, gams_inj, fars_inj, gam_inj, lea_inj, Int.ofNat_inj, ints_inj, gams_inj, fars_inj, gam_inj, lea_inj, stds_inj, std_inj, Int.ofNat_inj, ints_inj, gams_inj, fars_inj, gam_inj, lea_inj, Int.ofNat_inj, ints_inj, gams_inj, fars_inj, gam_inj, lea_inj, Int.ofNat_inj, ints_inj, gams_inj, fars_inj, gam_inj, lea_inj, stds_inj, std_inj, Int.ofNat_inj, ints_inj, gams_inj, fars_inj, gam_inj, lea_inj, tv_inj, ocs_inj, row_inj, Int.ofNat_inj, ints_inj, gams_inj, fars_inj, gam_inj, lea_inj, Int.ofNat_inj, ints_inj, gams_inj, fars_inj, gam_inj, lea_inj, stds_inj, std_inj, Int.ofNat_inj, ints_inj, gams_inj, fars_inj, gam_inj, lea_inj, Int.ofNat_inj, ints_inj, gams_inj, fars_inj, gam_inj, lea_inj, Int.ofNat_inj, ints_inj, gams_inj, fars_inj, gam_inj, lea_inj, stds_inj, std_inj, Int.ofNat_inj, ints_inj, gams_inj, fars_inj, gam_inj, lea_inj, tv_inj, ocs_inj, row_inj] using h) rfl]; simp
theorem x6_17_m2 {a : List Std} {b : List Std} {g1 el1 : Nat} {KK : AV → List AV → Sto → Prop} {QQ : Kt} {ii : At KK} {jj : At QQ} {ee : List AV} {ss : Sto} : xC Ct6 17 [.d (.sl 5 (a.map Std.c)), .own g1 el1 5 (b.map Std.c)] KK QQ ii jj ee ss = ((a.length ≤ 1000) ∧ (.b (decide (a = b)) : D).flat = true ∧ KK (.d (.b (decide (a = b)))) ee ss) := by
  show ent17 _ _ _ _ = _
  unfold ent17; rw [ent_iff (a, b) (by intro b h; simpa [Prod.ext_iff, and_assoc, Int.ofNat_inj, ints_inj, gams_inj, fars_inj, gam_inj, lea_inj, Int.ofNat_inj, ints_inj, gams_inj, fars_inj, gam_inj, lea_inj, stds_inj, std_inj, Int.ofNat_inj, ints_inj, gams_inj, fars_inj, gam_inj, lea_inj, Int.ofNat_inj, ints_inj, gams_inj, fars_inj, gam_inj, lea_inj, Int.ofNat_inj, ints_inj, gams_inj, fars_inj, gam_inj, lea_inj, stds_inj, std_inj, Int.ofNat_inj, ints_inj, gams_inj, fars_inj, gam_inj, lea_inj, tv_inj, ocs_inj, row_inj, Int.ofNat_inj, ints_inj, gams_inj, fars_inj, gam_inj, lea_inj, Int.ofNat_inj, ints_inj, gams_inj, fars_inj, gam_inj, lea_inj, stds_inj, std_inj, Int.ofNat_inj, ints_inj, gams_inj, fars_inj, gam_inj, lea_inj, Int.ofNat_inj, ints_inj, gams_inj, fars_inj, gam_inj, lea_inj, Int.ofNat_inj, ints_inj, gams_inj, fars_inj, gam_inj, lea_inj, stds_inj, std_inj, Int.ofNat_inj, ints_inj, gams_inj, fars_inj, gam_inj, lea_inj, tv_inj, ocs_inj, row_inj] using h) rfl]; simp
theorem x6_17_m3 {a : List Std} {b : List Std} {g1 el1 : Nat} {g2 el2 : Nat} {KK : AV → List AV → Sto → Prop} {QQ : Kt} {ii : At KK} {jj : At QQ} {ee : List AV} {ss : Sto} : xC Ct6 17 [.own g1 el1 5 (a.map Std.c), .own g2 el2 5 (b.map Std.c)] KK QQ ii jj ee ss = ((a.length ≤ 1000) ∧ (.b (decide (a = b)) : D).flat = true ∧ KK (.d (.b (decide (a = b)))) ee ss) := eqo17
theorem x6_22 {l : Lea} {KK : AV → List AV → Sto → Prop} {QQ : Kt} {ii : At KK} {jj : At QQ} {ee : List AV} {ss : Sto} : xC Ct6 22 [.d (.agg l.c)] KK QQ ii jj ee ss = ((l.far.length ≤ 1000) ∧ KK (.d (.b (leaOk l))) ee ss) := eq22
theorem c6 : callable Tryd.prog 6 = true := by kernel_rfl
theorem pf6 (l : Lea) (b : Int) (hb : 0 ≤ b ∧ b ≤ 255) : PFG Tryd.prog 6 0 gpt [.agg l.c, .v (.int .u8 b)] (fun zz => zz = .ret (.b true)) := by
  obtain ⟨u, rfl⟩ : ∃ u : Nat, b = (u : Int) := ⟨b.toNat, by omega⟩
  have hx10 : ∀ {args : List AV} {KK : AV → List AV → Sto → Prop} {QQ : Kt} {ii : At KK} {jj : At QQ} {ee : List AV} {ss : Sto}, xC Ct6 10 args KK QQ ii jj ee ss = sp10 args KK ee ss := id rfl
  have hx15 : ∀ {args : List AV} {KK : AV → List AV → Sto → Prop} {QQ : Kt} {ii : At KK} {jj : At QQ} {ee : List AV} {ss : Sto}, xC Ct6 15 args KK QQ ii jj ee ss = sp15 args KK ee ss := id rfl
  refine PFG_nil (PFG_start (O := O6) Ct6_ok hmix ho6 Tryd.func6 c6 rfl Tryd.ntmps6 Tryd.results6 ?_)
  by_cases c0 : lgB l 8 = true
  · simp (maxSteps := 4000000) +contextual (disch := first | omega | exact qdb_ok (by kernel_rfl) | exact okb_ok (by kernel_rfl)) only [bw1,bw2,bw3,bw4,bw5,bw6,bw7,bc0,bc1,bc2,bc3,bc4,bc5,bc6,bc7,bb0,setPs,AV.owns,AV.datF,AV.frz,AV.cpy,ifV,isEqB,nilV,nilX,AV.isNilS,AV.isNoRows,wk,dclo,datOf,binIs,addF,AV.isPtr,idxV,AV.isSl,AV.isSlice,AV.rows,ps,pv,extV,extS,AV.outs,AV.outF,packD,AV.dl,fieldV,fieldS,AV.cells?,AV.upr,AV.menc,AV.one,D.one,Value.oneCell',tagOf,AV.isApp,strV,strS,bolV,bolS,slcV,AV.isSlD,asrtS,AV.dcells,D.cells?,stcV,stcS,leafOk,eqDs,eqD,packA,D.val?,↓reduceIte,reduceCtorEq,Nat.reduceAdd,Nat.reduceSub,Nat.reduceMul,List.reduceReplicate,Nat.reduceLeDiff,Nat.reduceLT,Nat.reduceBEq,Nat.reduceEqDiff,Int.reduceNeg,Int.reduceEq,Int.reduceLE,Int.reduceLT,tfb,D.flat,D.flats,av_glob,n_seq,on_s,ctz6,O6_13,O6_24,x6_9,x6_17,x6_17_m1,x6_17_m2,x6_17_m3,x6_22,c0, hx10]
    refine ⟨rfl, rfl, ?_⟩
    simp (maxSteps := 4000000) +contextual (disch := first | omega | exact qdb_ok (by kernel_rfl) | exact okb_ok (by kernel_rfl)) only [bw1,bw2,bw3,bw4,bw5,bw6,bw7,bc0,bc1,bc2,bc3,bc4,bc5,bc6,bc7,bb0,setPs,AV.owns,AV.datF,AV.frz,AV.cpy,ifV,isEqB,nilV,nilX,AV.isNilS,AV.isNoRows,wk,dclo,datOf,binIs,addF,AV.isPtr,idxV,AV.isSl,AV.isSlice,AV.rows,ps,pv,extV,extS,AV.outs,AV.outF,packD,AV.dl,fieldV,fieldS,AV.cells?,AV.upr,AV.menc,AV.one,D.one,Value.oneCell',tagOf,AV.isApp,strV,strS,bolV,bolS,slcV,AV.isSlD,asrtS,AV.dcells,D.cells?,stcV,stcS,leafOk,eqDs,eqD,packA,D.val?,↓reduceIte,reduceCtorEq,Nat.reduceAdd,Nat.reduceSub,Nat.reduceMul,List.reduceReplicate,Nat.reduceLeDiff,Nat.reduceLT,Nat.reduceBEq,Nat.reduceEqDiff,Int.reduceNeg,Int.reduceEq,Int.reduceLE,Int.reduceLT,tfb,D.flat,D.flats,av_glob,n_seq,on_s,ctz6,O6_13,O6_24,x6_9,x6_17,x6_17_m1,x6_17_m2,x6_17_m3,x6_22,eq_self]
  have c0b : lgB l 8 = false := by simpa using c0
  have hl := lg_no c0
  have hf : l.far.length ≤ 1000 := by omega
  have hf2 : l.games.length ≤ 1000 := by omega
  have hl1 : l.far.length ≤ 1000 ∧ l.games.length ≤ 1000 := ⟨hf, hf2⟩
  simp (maxSteps := 4000000) +contextual (disch := first | omega | exact qdb_ok (by kernel_rfl) | exact okb_ok (by kernel_rfl)) only [bw1,bw2,bw3,bw4,bw5,bw6,bw7,bc0,bc1,bc2,bc3,bc4,bc5,bc6,bc7,bb0,setPs,AV.owns,AV.datF,AV.frz,AV.cpy,ifV,isEqB,nilV,nilX,AV.isNilS,AV.isNoRows,wk,dclo,datOf,binIs,addF,AV.isPtr,idxV,AV.isSl,AV.isSlice,AV.rows,ps,pv,extV,extS,AV.outs,AV.outF,packD,AV.dl,fieldV,fieldS,AV.cells?,AV.upr,AV.menc,AV.one,D.one,Value.oneCell',tagOf,AV.isApp,strV,strS,bolV,bolS,slcV,AV.isSlD,asrtS,AV.dcells,D.cells?,stcV,stcS,leafOk,eqDs,eqD,packA,D.val?,↓reduceIte,reduceCtorEq,Nat.reduceAdd,Nat.reduceSub,Nat.reduceMul,List.reduceReplicate,Nat.reduceLeDiff,Nat.reduceLT,Nat.reduceBEq,Nat.reduceEqDiff,Int.reduceNeg,Int.reduceEq,Int.reduceLE,Int.reduceLT,tfb,D.flat,D.flats,av_glob,n_seq,on_s,ctz6,O6_13,O6_24,x6_9,x6_17,x6_17_m1,x6_17_m2,x6_17_m3,x6_22,c0b, hx15]
  refine ⟨l, hf, rfl, rfl, ?_⟩
  by_cases hlea : leaOk l = true
  case neg =>
    have htb : tbR l = ([], 1) := by unfold tbR; rw [if_neg hlea]
    simp (maxSteps := 4000000) +contextual (disch := first | omega | exact qdb_ok (by kernel_rfl) | exact okb_ok (by kernel_rfl)) only [bw1,bw2,bw3,bw4,bw5,bw6,bw7,bc0,bc1,bc2,bc3,bc4,bc5,bc6,bc7,bb0,setPs,AV.owns,AV.datF,AV.frz,AV.cpy,ifV,isEqB,nilV,nilX,AV.isNilS,AV.isNoRows,wk,dclo,datOf,binIs,addF,AV.isPtr,idxV,AV.isSl,AV.isSlice,AV.rows,ps,pv,extV,extS,AV.outs,AV.outF,packD,AV.dl,fieldV,fieldS,AV.cells?,AV.upr,AV.menc,AV.one,D.one,Value.oneCell',tagOf,AV.isApp,strV,strS,bolV,bolS,slcV,AV.isSlD,asrtS,AV.dcells,D.cells?,stcV,stcS,leafOk,eqDs,eqD,packA,D.val?,↓reduceIte,reduceCtorEq,Nat.reduceAdd,Nat.reduceSub,Nat.reduceMul,List.reduceReplicate,Nat.reduceLeDiff,Nat.reduceLT,Nat.reduceBEq,Nat.reduceEqDiff,Int.reduceNeg,Int.reduceEq,Int.reduceLE,Int.reduceLT,tfb,D.flat,D.flats,av_glob,n_seq,on_s,ctz6,O6_13,O6_24,x6_9,x6_17,x6_17_m1,x6_17_m2,x6_17_m3,x6_22,htb, hx10]
    refine ⟨rfl, rfl, ?_⟩
    simp (maxSteps := 4000000) +contextual (disch := first | omega | exact qdb_ok (by kernel_rfl) | exact okb_ok (by kernel_rfl)) only [bw1,bw2,bw3,bw4,bw5,bw6,bw7,bc0,bc1,bc2,bc3,bc4,bc5,bc6,bc7,bb0,setPs,AV.owns,AV.datF,AV.frz,AV.cpy,ifV,isEqB,nilV,nilX,AV.isNilS,AV.isNoRows,wk,dclo,datOf,binIs,addF,AV.isPtr,idxV,AV.isSl,AV.isSlice,AV.rows,ps,pv,extV,extS,AV.outs,AV.outF,packD,AV.dl,fieldV,fieldS,AV.cells?,AV.upr,AV.menc,AV.one,D.one,Value.oneCell',tagOf,AV.isApp,strV,strS,bolV,bolS,slcV,AV.isSlD,asrtS,AV.dcells,D.cells?,stcV,stcS,leafOk,eqDs,eqD,packA,D.val?,↓reduceIte,reduceCtorEq,Nat.reduceAdd,Nat.reduceSub,Nat.reduceMul,List.reduceReplicate,Nat.reduceLeDiff,Nat.reduceLT,Nat.reduceBEq,Nat.reduceEqDiff,Int.reduceNeg,Int.reduceEq,Int.reduceLE,Int.reduceLT,tfb,D.flat,D.flats,av_glob,n_seq,on_s,ctz6,O6_13,O6_24,x6_9,x6_17,x6_17_m1,x6_17_m2,x6_17_m3,x6_22,eq_self]
  have htb2 : tbR l = (tabR l.games l.far.length, 0) := by unfold tbR; rw [if_pos hlea]
  have hln2 : (tabR l.games l.far.length).length = l.far.length := tbN_len _
  have z2 : ((0 : Int) != 0) = false := rfl
  have z3 : ((l.far.length : Int) != (l.far.length : Int)) = false := by simp
  have h6 := lea_fars hlea
  have h64 := lea_games hlea
  simp (maxSteps := 4000000) +contextual (disch := first | omega | exact qdb_ok (by kernel_rfl) | exact okb_ok (by kernel_rfl)) only [bw1,bw2,bw3,bw4,bw5,bw6,bw7,bc0,bc1,bc2,bc3,bc4,bc5,bc6,bc7,bb0,setPs,AV.owns,AV.datF,AV.frz,AV.cpy,ifV,isEqB,nilV,nilX,AV.isNilS,AV.isNoRows,wk,dclo,datOf,binIs,addF,AV.isPtr,idxV,AV.isSl,AV.isSlice,AV.rows,ps,pv,extV,extS,AV.outs,AV.outF,packD,AV.dl,fieldV,fieldS,AV.cells?,AV.upr,AV.menc,AV.one,D.one,Value.oneCell',tagOf,AV.isApp,strV,strS,bolV,bolS,slcV,AV.isSlD,asrtS,AV.dcells,D.cells?,stcV,stcS,leafOk,eqDs,eqD,packA,D.val?,↓reduceIte,reduceCtorEq,Nat.reduceAdd,Nat.reduceSub,Nat.reduceMul,List.reduceReplicate,Nat.reduceLeDiff,Nat.reduceLT,Nat.reduceBEq,Nat.reduceEqDiff,Int.reduceNeg,Int.reduceEq,Int.reduceLE,Int.reduceLT,tfb,D.flat,D.flats,av_glob,n_seq,on_s,ctz6,O6_13,O6_24,x6_9,x6_17,x6_17_m1,x6_17_m2,x6_17_m3,x6_22,htb2, hlea, hln2, z2, z3, hl1]
  have hT : ∃ T, T = tabR l.games l.far.length := ⟨_, rfl⟩
  have hbT := tab_b hlea
  refine loop_xu (O := O6) (tb := 0) Ct6_ok hmix (by kernel_rfl) (σ := Nat) (fun k => [(7, .i (ptT (tabR l.games l.far.length) k)), (8, .i (gmT (tabR l.games l.far.length) k)), (9, .i (glT (tabR l.games l.far.length) k)), (10, .i k), (11, .any)]) (fun k => []) (fun k => k ≤ l.far.length) (fun k => l.far.length - k) 0 (Nat.zero_le _) ?_ ?_
  · have a1 : ptT (tabR l.games l.far.length) 0 = 0 := rfl
    have a2 : gmT (tabR l.games l.far.length) 0 = 0 := rfl
    have a3 : glT (tabR l.games l.far.length) 0 = 0 := rfl
    simp (maxSteps := 4000000) +contextual (disch := first | omega | exact qdb_ok (by kernel_rfl) | exact okb_ok (by kernel_rfl)) only [bw1,bw2,bw3,bw4,bw5,bw6,bw7,bc0,bc1,bc2,bc3,bc4,bc5,bc6,bc7,bb0,setPs,AV.owns,AV.datF,AV.frz,AV.cpy,ifV,isEqB,nilV,nilX,AV.isNilS,AV.isNoRows,wk,dclo,datOf,binIs,addF,AV.isPtr,idxV,AV.isSl,AV.isSlice,AV.rows,ps,pv,extV,extS,AV.outs,AV.outF,packD,AV.dl,fieldV,fieldS,AV.cells?,AV.upr,AV.menc,AV.one,D.one,Value.oneCell',tagOf,AV.isApp,strV,strS,bolV,bolS,slcV,AV.isSlD,asrtS,AV.dcells,D.cells?,stcV,stcS,leafOk,eqDs,eqD,packA,D.val?,↓reduceIte,reduceCtorEq,Nat.reduceAdd,Nat.reduceSub,Nat.reduceMul,List.reduceReplicate,Nat.reduceLeDiff,Nat.reduceLT,Nat.reduceBEq,Nat.reduceEqDiff,Int.reduceNeg,Int.reduceEq,Int.reduceLE,Int.reduceLT,tfb,D.flat,D.flats,av_glob,n_seq,on_s,ctz6,O6_13,O6_24,x6_9,x6_17,x6_17_m1,x6_17_m2,x6_17_m3,x6_22,eq_self, a1, a2, a3]
  rintro k hk
  have hkb := tk_b hbT k (by omega)
  by_cases hlt : k < l.far.length
  · have hlt' : (k : Int) < l.far.length := by omega
    have hkT : k < (tabR l.games l.far.length).length := by omega
    have hrw : ((tabR l.games l.far.length).map Std.c).getD k [] = Std.c ((tabR l.games l.far.length).getD k default) := Go.E.row_at hkT
    have hst := tk_step hkT
    have hs1 := hst.1
    have hs2 := hst.2.1
    have hs3 := hst.2.2
    have htm := tab_team hlea hlt
    have q1 : ¬ ((tabR l.games l.far.length).getD k default).team < 0 := by omega
    have q2 : ¬ (l.far.length : Int) ≤ ((tabR l.games l.far.length).getD k default).team := by omega
    have hsb := hbT ((tabR l.games l.far.length).getD k default) (by rw [at_lt hkT]; exact List.getElem_mem _)
    unfold StB at hsb
    by_cases hz : k = 0
    · have hz0 : ¬ (0 : Int) < (k : Int) := by omega
      simp (maxSteps := 4000000) +contextual (disch := first | omega | exact qdb_ok (by kernel_rfl) | exact okb_ok (by kernel_rfl)) only [bw1,bw2,bw3,bw4,bw5,bw6,bw7,bc0,bc1,bc2,bc3,bc4,bc5,bc6,bc7,bb0,setPs,AV.owns,AV.datF,AV.frz,AV.cpy,ifV,isEqB,nilV,nilX,AV.isNilS,AV.isNoRows,wk,dclo,datOf,binIs,addF,AV.isPtr,idxV,AV.isSl,AV.isSlice,AV.rows,ps,pv,extV,extS,AV.outs,AV.outF,packD,AV.dl,fieldV,fieldS,AV.cells?,AV.upr,AV.menc,AV.one,D.one,Value.oneCell',tagOf,AV.isApp,strV,strS,bolV,bolS,slcV,AV.isSlD,asrtS,AV.dcells,D.cells?,stcV,stcS,leafOk,eqDs,eqD,packA,D.val?,↓reduceIte,reduceCtorEq,Nat.reduceAdd,Nat.reduceSub,Nat.reduceMul,List.reduceReplicate,Nat.reduceLeDiff,Nat.reduceLT,Nat.reduceBEq,Nat.reduceEqDiff,Int.reduceNeg,Int.reduceEq,Int.reduceLE,Int.reduceLT,tfb,D.flat,D.flats,av_glob,n_seq,on_s,ctz6,O6_13,O6_24,x6_9,x6_17,x6_17_m1,x6_17_m2,x6_17_m3,x6_22,eq_self, hlt', hrw, q1, q2, hln2, hz0]
      exact ⟨by omega, k + 1, ⟨by omega, by omega⟩, by rw [hs1], by rw [hs2], by rw [hs3, Int.add_sub_assoc], rfl⟩
    · have hz0 : (0 : Int) < (k : Int) := by omega
      have hrw2 : ((tabR l.games l.far.length).map Std.c).getD (k - 1) [] = Std.c ((tabR l.games l.far.length).getD (k - 1) default) := Go.E.row_at (by omega)
      have q3 : ¬ ((tabR l.games l.far.length).getD (k - 1) default).pts < ((tabR l.games l.far.length).getD k default).pts := by
        have := tab_down hlea (k := k - 1) (by omega)
        rw [show k - 1 + 1 = k by omega] at this
        omega
      have q4 : ((k : Int) - 1).toNat = k - 1 := by omega
      have q5 : (0 : Int) ≤ (k : Int) - 1 := by omega
      have q6 : (k : Int) - 1 < l.far.length := by omega
      simp (maxSteps := 4000000) +contextual (disch := first | omega | exact qdb_ok (by kernel_rfl) | exact okb_ok (by kernel_rfl)) only [bw1,bw2,bw3,bw4,bw5,bw6,bw7,bc0,bc1,bc2,bc3,bc4,bc5,bc6,bc7,bb0,setPs,AV.owns,AV.datF,AV.frz,AV.cpy,ifV,isEqB,nilV,nilX,AV.isNilS,AV.isNoRows,wk,dclo,datOf,binIs,addF,AV.isPtr,idxV,AV.isSl,AV.isSlice,AV.rows,ps,pv,extV,extS,AV.outs,AV.outF,packD,AV.dl,fieldV,fieldS,AV.cells?,AV.upr,AV.menc,AV.one,D.one,Value.oneCell',tagOf,AV.isApp,strV,strS,bolV,bolS,slcV,AV.isSlD,asrtS,AV.dcells,D.cells?,stcV,stcS,leafOk,eqDs,eqD,packA,D.val?,↓reduceIte,reduceCtorEq,Nat.reduceAdd,Nat.reduceSub,Nat.reduceMul,List.reduceReplicate,Nat.reduceLeDiff,Nat.reduceLT,Nat.reduceBEq,Nat.reduceEqDiff,Int.reduceNeg,Int.reduceEq,Int.reduceLE,Int.reduceLT,tfb,D.flat,D.flats,av_glob,n_seq,on_s,ctz6,O6_13,O6_24,x6_9,x6_17,x6_17_m1,x6_17_m2,x6_17_m3,x6_22,eq_self, hlt', hrw, q1, q2, q3, q4, q5, q6, hln2, hz0, hrw2]
      exact ⟨by omega, k + 1, ⟨by omega, by omega⟩, by rw [hs1], by rw [hs2], by rw [hs3, Int.add_sub_assoc], rfl⟩
  obtain rfl : k = l.far.length := by omega
  simp (maxSteps := 4000000) +contextual (disch := first | omega | exact qdb_ok (by kernel_rfl) | exact okb_ok (by kernel_rfl)) only [bw1,bw2,bw3,bw4,bw5,bw6,bw7,bc0,bc1,bc2,bc3,bc4,bc5,bc6,bc7,bb0,setPs,AV.owns,AV.datF,AV.frz,AV.cpy,ifV,isEqB,nilV,nilX,AV.isNilS,AV.isNoRows,wk,dclo,datOf,binIs,addF,AV.isPtr,idxV,AV.isSl,AV.isSlice,AV.rows,ps,pv,extV,extS,AV.outs,AV.outF,packD,AV.dl,fieldV,fieldS,AV.cells?,AV.upr,AV.menc,AV.one,D.one,Value.oneCell',tagOf,AV.isApp,strV,strS,bolV,bolS,slcV,AV.isSlD,asrtS,AV.dcells,D.cells?,stcV,stcS,leafOk,eqDs,eqD,packA,D.val?,↓reduceIte,reduceCtorEq,Nat.reduceAdd,Nat.reduceSub,Nat.reduceMul,List.reduceReplicate,Nat.reduceLeDiff,Nat.reduceLT,Nat.reduceBEq,Nat.reduceEqDiff,Int.reduceNeg,Int.reduceEq,Int.reduceLE,Int.reduceLT,tfb,D.flat,D.flats,av_glob,n_seq,on_s,ctz6,O6_13,O6_24,x6_9,x6_17,x6_17_m1,x6_17_m2,x6_17_m3,x6_22,eq_self, hln2, Int.lt_irrefl]
  have hsum := sums hlea (u := u)
  have g1 : ptT (tabR l.games l.far.length) l.far.length = 3 * (plyN l.games u l.games.length : Int) := hsum.1
  have g2 : gmT (tabR l.games l.far.length) l.far.length = 2 * (plyN l.games u l.games.length : Int) := hsum.2.1
  have g3 : glT (tabR l.games l.far.length) l.far.length = 0 := hsum.2.2
  refine seedS (m1 := mk _) (m2 := mk _) 14 1 149 53 6 _ (by decide) (by decide) rfl rfl (by simp [AV.mens, AV.men]) (by simp [Sto.mens, AV.mens, AV.men]) rfl ?_
  refine loop_xu (O := O6) (tb := 0) Ct6_ok hmix (by kernel_rfl) (σ := Nat) (fun k => [(12, .i (plyN l.games u k : Int)), (14, .i k), (15, .any)]) (fun k => [(14, [.d (.sl 1 (l.far.map pc)), .own 149 53 6 ((othN l.games u k).map Gam.c)])]) (fun k => k ≤ l.games.length) (fun k => l.games.length - k) 0 (Nat.zero_le _) ?_ ?_
  · have a1 : (plyN l.games u 0 : Int) = 0 := rfl
    have a2 : (othN l.games u 0).map Gam.c = [] := rfl
    simp (maxSteps := 4000000) +contextual (disch := first | omega | exact qdb_ok (by kernel_rfl) | exact okb_ok (by kernel_rfl)) only [bw1,bw2,bw3,bw4,bw5,bw6,bw7,bc0,bc1,bc2,bc3,bc4,bc5,bc6,bc7,bb0,setPs,AV.owns,AV.datF,AV.frz,AV.cpy,ifV,isEqB,nilV,nilX,AV.isNilS,AV.isNoRows,wk,dclo,datOf,binIs,addF,AV.isPtr,idxV,AV.isSl,AV.isSlice,AV.rows,ps,pv,extV,extS,AV.outs,AV.outF,packD,AV.dl,fieldV,fieldS,AV.cells?,AV.upr,AV.menc,AV.one,D.one,Value.oneCell',tagOf,AV.isApp,strV,strS,bolV,bolS,slcV,AV.isSlD,asrtS,AV.dcells,D.cells?,stcV,stcS,leafOk,eqDs,eqD,packA,D.val?,↓reduceIte,reduceCtorEq,Nat.reduceAdd,Nat.reduceSub,Nat.reduceMul,List.reduceReplicate,Nat.reduceLeDiff,Nat.reduceLT,Nat.reduceBEq,Nat.reduceEqDiff,Int.reduceNeg,Int.reduceEq,Int.reduceLE,Int.reduceLT,tfb,D.flat,D.flats,av_glob,n_seq,on_s,ctz6,O6_13,O6_24,x6_9,x6_17,x6_17_m1,x6_17_m2,x6_17_m3,x6_22,eq_self, a1, a2]
  rintro k hk
  have hple := plyN_le (l := l.games) (u := u) (k := k)
  have holen := othN_len (l := l.games) (u := u) (k := k)
  by_cases hlt : k < l.games.length
  case neg =>
    obtain rfl : k = l.games.length := by omega
    have htb3 : tbR (othL l u) = (tabR l.games l.far.length, 0) := by unfold tbR; rw [if_pos (oth_ok hlea), oth_tab hlea]
    simp (maxSteps := 4000000) +contextual (disch := first | omega | exact qdb_ok (by kernel_rfl) | exact okb_ok (by kernel_rfl)) only [bw1,bw2,bw3,bw4,bw5,bw6,bw7,bc0,bc1,bc2,bc3,bc4,bc5,bc6,bc7,bb0,setPs,AV.owns,AV.datF,AV.frz,AV.cpy,ifV,isEqB,nilV,nilX,AV.isNilS,AV.isNoRows,wk,dclo,datOf,binIs,addF,AV.isPtr,idxV,AV.isSl,AV.isSlice,AV.rows,ps,pv,extV,extS,AV.outs,AV.outF,packD,AV.dl,fieldV,fieldS,AV.cells?,AV.upr,AV.menc,AV.one,D.one,Value.oneCell',tagOf,AV.isApp,strV,strS,bolV,bolS,slcV,AV.isSlD,asrtS,AV.dcells,D.cells?,stcV,stcS,leafOk,eqDs,eqD,packA,D.val?,↓reduceIte,reduceCtorEq,Nat.reduceAdd,Nat.reduceSub,Nat.reduceMul,List.reduceReplicate,Nat.reduceLeDiff,Nat.reduceLT,Nat.reduceBEq,Nat.reduceEqDiff,Int.reduceNeg,Int.reduceEq,Int.reduceLE,Int.reduceLT,tfb,D.flat,D.flats,av_glob,n_seq,on_s,ctz6,O6_13,O6_24,x6_9,x6_17,x6_17_m1,x6_17_m2,x6_17_m3,x6_22,eq_self, Int.lt_irrefl, hx15]
    refine ⟨othL l u, hf, rfl, rfl, ?_⟩
    simp (maxSteps := 4000000) +contextual (disch := first | omega | exact qdb_ok (by kernel_rfl) | exact okb_ok (by kernel_rfl)) only [bw1,bw2,bw3,bw4,bw5,bw6,bw7,bc0,bc1,bc2,bc3,bc4,bc5,bc6,bc7,bb0,setPs,AV.owns,AV.datF,AV.frz,AV.cpy,ifV,isEqB,nilV,nilX,AV.isNilS,AV.isNoRows,wk,dclo,datOf,binIs,addF,AV.isPtr,idxV,AV.isSl,AV.isSlice,AV.rows,ps,pv,extV,extS,AV.outs,AV.outF,packD,AV.dl,fieldV,fieldS,AV.cells?,AV.upr,AV.menc,AV.one,D.one,Value.oneCell',tagOf,AV.isApp,strV,strS,bolV,bolS,slcV,AV.isSlD,asrtS,AV.dcells,D.cells?,stcV,stcS,leafOk,eqDs,eqD,packA,D.val?,↓reduceIte,reduceCtorEq,Nat.reduceAdd,Nat.reduceSub,Nat.reduceMul,List.reduceReplicate,Nat.reduceLeDiff,Nat.reduceLT,Nat.reduceBEq,Nat.reduceEqDiff,Int.reduceNeg,Int.reduceEq,Int.reduceLE,Int.reduceLT,tfb,D.flat,D.flats,av_glob,n_seq,on_s,ctz6,O6_13,O6_24,x6_9,x6_17,x6_17_m1,x6_17_m2,x6_17_m3,x6_22,htb3, g1, g2, g3, hx10, hln2, hf, beq_self_eq_true]
    refine ⟨rfl, rfl, ?_⟩
    simp (maxSteps := 4000000) +contextual (disch := first | omega | exact qdb_ok (by kernel_rfl) | exact okb_ok (by kernel_rfl)) only [bw1,bw2,bw3,bw4,bw5,bw6,bw7,bc0,bc1,bc2,bc3,bc4,bc5,bc6,bc7,bb0,setPs,AV.owns,AV.datF,AV.frz,AV.cpy,ifV,isEqB,nilV,nilX,AV.isNilS,AV.isNoRows,wk,dclo,datOf,binIs,addF,AV.isPtr,idxV,AV.isSl,AV.isSlice,AV.rows,ps,pv,extV,extS,AV.outs,AV.outF,packD,AV.dl,fieldV,fieldS,AV.cells?,AV.upr,AV.menc,AV.one,D.one,Value.oneCell',tagOf,AV.isApp,strV,strS,bolV,bolS,slcV,AV.isSlD,asrtS,AV.dcells,D.cells?,stcV,stcS,leafOk,eqDs,eqD,packA,D.val?,↓reduceIte,reduceCtorEq,Nat.reduceAdd,Nat.reduceSub,Nat.reduceMul,List.reduceReplicate,Nat.reduceLeDiff,Nat.reduceLT,Nat.reduceBEq,Nat.reduceEqDiff,Int.reduceNeg,Int.reduceEq,Int.reduceLE,Int.reduceLT,tfb,D.flat,D.flats,av_glob,n_seq,on_s,ctz6,O6_13,O6_24,x6_9,x6_17,x6_17_m1,x6_17_m2,x6_17_m3,x6_22,eq_self]
  have hlt' : (k : Int) < l.games.length := by omega
  have hlz : ¬ (l.games.length : Int) = 0 := by omega
  obtain ⟨m, hm⟩ : ∃ m : Nat, m = (k + u) % l.games.length := ⟨_, rfl⟩
  have hml : m < l.games.length := by rw [hm]; exact Nat.mod_lt _ (by omega)
  have hml' : (m : Int) < l.games.length := by omega
  have hm1 : ((k : Int) + (u : Int)) % (l.games.length : Int) = m := by rw [hm, Int.natCast_emod]; rfl
  have hrw : (l.games.map Gam.c).getD m [] = Gam.c (l.games.getD m default) := Go.E.row_at hml
  have hos := othN_succ (l := l.games) (u := u) (k := k)
  rw [← hm] at hos
  have hom0 : (k + u) % 2 = 0 → (othN l.games u k).map Gam.c ++ [Gam.c (swG (l.games.getD m default))] = (othN l.games u (k + 1)).map Gam.c := by
    intro e0; rw [hos, List.map_append]; unfold turG; rw [if_pos e0]; rfl
  have hom1 : ¬ (k + u) % 2 = 0 → (othN l.games u k).map Gam.c ++ [Gam.c (l.games.getD m default)] = (othN l.games u (k + 1)).map Gam.c := by
    intro e0; rw [hos, List.map_append]; unfold turG; rw [if_neg e0]; rfl
  by_cases d0 : (l.games.getD m default).fin = 0
  · have d1 : ((l.games.getD m default).fin != 0) = false := by simpa using d0
    have hpn : plyN l.games u (k + 1) = plyN l.games u k := plyN_no (by rw [← hm]; exact d0)
    by_cases e0 : (k + u) % 2 = 0
    · have e1 : (((k : Int) + (u : Int)) % 2 == 0) = true := by rw [beq_iff_eq]; omega
      have hom := hom0 e0
      simp (maxSteps := 4000000) +contextual (disch := first | omega | exact qdb_ok (by kernel_rfl) | exact okb_ok (by kernel_rfl)) only [bw1,bw2,bw3,bw4,bw5,bw6,bw7,bc0,bc1,bc2,bc3,bc4,bc5,bc6,bc7,bb0,setPs,AV.owns,AV.datF,AV.frz,AV.cpy,ifV,isEqB,nilV,nilX,AV.isNilS,AV.isNoRows,wk,dclo,datOf,binIs,addF,AV.isPtr,idxV,AV.isSl,AV.isSlice,AV.rows,ps,pv,extV,extS,AV.outs,AV.outF,packD,AV.dl,fieldV,fieldS,AV.cells?,AV.upr,AV.menc,AV.one,D.one,Value.oneCell',tagOf,AV.isApp,strV,strS,bolV,bolS,slcV,AV.isSlD,asrtS,AV.dcells,D.cells?,stcV,stcS,leafOk,eqDs,eqD,packA,D.val?,↓reduceIte,reduceCtorEq,Nat.reduceAdd,Nat.reduceSub,Nat.reduceMul,List.reduceReplicate,Nat.reduceLeDiff,Nat.reduceLT,Nat.reduceBEq,Nat.reduceEqDiff,Int.reduceNeg,Int.reduceEq,Int.reduceLE,Int.reduceLT,tfb,D.flat,D.flats,av_glob,n_seq,on_s,ctz6,O6_13,O6_24,x6_9,x6_17,x6_17_m1,x6_17_m2,x6_17_m3,x6_22,eq_self, hlt', hlz, hm1, hml', hrw, e1, d1]
      exact ⟨by omega, by omega, by omega, k + 1, ⟨by omega, by omega⟩, ⟨by rw [hpn], rfl⟩, hom⟩
    · have e1 : (((k : Int) + (u : Int)) % 2 == 0) = false := by rw [beq_eq_false_iff_ne]; omega
      have hom := hom1 e0
      simp (maxSteps := 4000000) +contextual (disch := first | omega | exact qdb_ok (by kernel_rfl) | exact okb_ok (by kernel_rfl)) only [bw1,bw2,bw3,bw4,bw5,bw6,bw7,bc0,bc1,bc2,bc3,bc4,bc5,bc6,bc7,bb0,setPs,AV.owns,AV.datF,AV.frz,AV.cpy,ifV,isEqB,nilV,nilX,AV.isNilS,AV.isNoRows,wk,dclo,datOf,binIs,addF,AV.isPtr,idxV,AV.isSl,AV.isSlice,AV.rows,ps,pv,extV,extS,AV.outs,AV.outF,packD,AV.dl,fieldV,fieldS,AV.cells?,AV.upr,AV.menc,AV.one,D.one,Value.oneCell',tagOf,AV.isApp,strV,strS,bolV,bolS,slcV,AV.isSlD,asrtS,AV.dcells,D.cells?,stcV,stcS,leafOk,eqDs,eqD,packA,D.val?,↓reduceIte,reduceCtorEq,Nat.reduceAdd,Nat.reduceSub,Nat.reduceMul,List.reduceReplicate,Nat.reduceLeDiff,Nat.reduceLT,Nat.reduceBEq,Nat.reduceEqDiff,Int.reduceNeg,Int.reduceEq,Int.reduceLE,Int.reduceLT,tfb,D.flat,D.flats,av_glob,n_seq,on_s,ctz6,O6_13,O6_24,x6_9,x6_17,x6_17_m1,x6_17_m2,x6_17_m3,x6_22,eq_self, hlt', hlz, hm1, hml', hrw, e1, d1]
      exact ⟨by omega, by omega, by omega, k + 1, ⟨by omega, by omega⟩, ⟨by rw [hpn], rfl⟩, hom⟩
  · have d1 : ((l.games.getD m default).fin != 0) = true := by simpa using d0
    have hpn : plyN l.games u (k + 1) = plyN l.games u k + 1 := plyN_yes (by rw [← hm]; exact d0)
    by_cases e0 : (k + u) % 2 = 0
    · have e1 : (((k : Int) + (u : Int)) % 2 == 0) = true := by rw [beq_iff_eq]; omega
      have hom := hom0 e0
      simp (maxSteps := 4000000) +contextual (disch := first | omega | exact qdb_ok (by kernel_rfl) | exact okb_ok (by kernel_rfl)) only [bw1,bw2,bw3,bw4,bw5,bw6,bw7,bc0,bc1,bc2,bc3,bc4,bc5,bc6,bc7,bb0,setPs,AV.owns,AV.datF,AV.frz,AV.cpy,ifV,isEqB,nilV,nilX,AV.isNilS,AV.isNoRows,wk,dclo,datOf,binIs,addF,AV.isPtr,idxV,AV.isSl,AV.isSlice,AV.rows,ps,pv,extV,extS,AV.outs,AV.outF,packD,AV.dl,fieldV,fieldS,AV.cells?,AV.upr,AV.menc,AV.one,D.one,Value.oneCell',tagOf,AV.isApp,strV,strS,bolV,bolS,slcV,AV.isSlD,asrtS,AV.dcells,D.cells?,stcV,stcS,leafOk,eqDs,eqD,packA,D.val?,↓reduceIte,reduceCtorEq,Nat.reduceAdd,Nat.reduceSub,Nat.reduceMul,List.reduceReplicate,Nat.reduceLeDiff,Nat.reduceLT,Nat.reduceBEq,Nat.reduceEqDiff,Int.reduceNeg,Int.reduceEq,Int.reduceLE,Int.reduceLT,tfb,D.flat,D.flats,av_glob,n_seq,on_s,ctz6,O6_13,O6_24,x6_9,x6_17,x6_17_m1,x6_17_m2,x6_17_m3,x6_22,eq_self, hlt', hlz, hm1, hml', hrw, e1, d1]
      exact ⟨by omega, by omega, by omega, k + 1, ⟨by omega, by omega⟩, ⟨by rw [hpn]; rfl, rfl⟩, hom⟩
    · have e1 : (((k : Int) + (u : Int)) % 2 == 0) = false := by rw [beq_eq_false_iff_ne]; omega
      have hom := hom1 e0
      simp (maxSteps := 4000000) +contextual (disch := first | omega | exact qdb_ok (by kernel_rfl) | exact okb_ok (by kernel_rfl)) only [bw1,bw2,bw3,bw4,bw5,bw6,bw7,bc0,bc1,bc2,bc3,bc4,bc5,bc6,bc7,bb0,setPs,AV.owns,AV.datF,AV.frz,AV.cpy,ifV,isEqB,nilV,nilX,AV.isNilS,AV.isNoRows,wk,dclo,datOf,binIs,addF,AV.isPtr,idxV,AV.isSl,AV.isSlice,AV.rows,ps,pv,extV,extS,AV.outs,AV.outF,packD,AV.dl,fieldV,fieldS,AV.cells?,AV.upr,AV.menc,AV.one,D.one,Value.oneCell',tagOf,AV.isApp,strV,strS,bolV,bolS,slcV,AV.isSlD,asrtS,AV.dcells,D.cells?,stcV,stcS,leafOk,eqDs,eqD,packA,D.val?,↓reduceIte,reduceCtorEq,Nat.reduceAdd,Nat.reduceSub,Nat.reduceMul,List.reduceReplicate,Nat.reduceLeDiff,Nat.reduceLT,Nat.reduceBEq,Nat.reduceEqDiff,Int.reduceNeg,Int.reduceEq,Int.reduceLE,Int.reduceLT,tfb,D.flat,D.flats,av_glob,n_seq,on_s,ctz6,O6_13,O6_24,x6_9,x6_17,x6_17_m1,x6_17_m2,x6_17_m3,x6_22,eq_self, hlt', hlz, hm1, hml', hrw, e1, d1]
      exact ⟨by omega, by omega, by omega, k + 1, ⟨by omega, by omega⟩, ⟨by rw [hpn]; rfl, rfl⟩, hom⟩
end Go.Proofs.YtmajlffglplcnaaDoor
