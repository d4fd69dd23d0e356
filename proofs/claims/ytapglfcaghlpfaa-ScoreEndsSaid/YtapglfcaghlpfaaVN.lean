/- A part of the proof that the last text ends: what functions of the program do, told by plain data. -/
import Derived.Test.YtapglfcaghlpfaaVM
set_option linter.unusedVariables false
set_option linter.unusedSimpArgs false
namespace Go.Proofs.Ytapglfcaghlpfaa
open Go Go.E Go.Maps
set_option maxRecDepth 100000
set_option maxHeartbeats 16000000
theorem swG_no {r : Rul} {l : List Ska} {j : Int} (h : ¬ (swG r l j).2 = 0) : (swG r l j).1 = [] := by
  unfold swG at h ⊢
  split
  · rename_i c
    rw [if_pos c] at h
    split
    · rename_i d
      rw [if_pos d] at h
      exact absurd rfl h
    · rfl
  · rfl
theorem swG_yes {r : Rul} {l : List Ska} {j : Int} (h : (swG r l j).2 = 0) : errG r l = 0 ∧ inB j 0 ((jud l).1 - 1) = true ∧ swG r l j = (swR r l j.toNat, 0) := by
  unfold swG at h ⊢
  split at h
  · rename_i c
    split at h
    · rename_i d
      rw [if_pos c, if_pos d]
      exact ⟨c, d, rfl⟩
    · cases h
  · rename_i c
    exact absurd h c
theorem swR_len {r : Rul} {l : List Ska} {j : Nat} : (swR r l j).length = l.length := by unfold swR; rw [List.length_map, List.length_range]
theorem jud_two {l : List Ska} (h : 0 < (jud l).1) : (jud l).2 = true := by
  have := (judN_b (l := l) l.length 0).2
  cases c : (jud l).2
  · have h2 : (jud l).1 = 0 := this c
    omega
  · rfl
def O7 : Nat → Sch := fun id => if id = 6 then .one 0 (.one 1 (.one 2 (.one 3 (.one 4 (.one 5 (.one 6 (.one 7 (.one 8 (.one 10 (.alt (.one 9 (.one 11 (.one 12 (.one 13 (.one 14 (.one 15 (.one 16 (.one 17 (.one 18 (.one 19 (.one 20 (.done)))))))))))) (.one 11 (.one 9 (.one 12 (.one 13 (.one 14 (.one 15 (.one 16 (.one 17 (.one 18 (.one 19 (.one 20 (.done)))))))))))))))))))))) else if id = 10 then .one 0 (.one 2 (.alt (.one 1 (.one 3 (.one 4 (.one 5 (.one 6 (.one 7 (.one 8 (.one 9 (.one 11 (.alt (.one 10 (.one 12 (.one 13 (.one 14 (.one 15 (.one 16 (.one 17 (.one 18 (.one 19 (.one 20 (.one 21 (.done)))))))))))) (.one 12 (.one 13 (.one 14 (.alt (.one 10 (.one 15 (.one 16 (.one 17 (.one 18 (.one 19 (.one 20 (.one 21 (.done))))))))) (.one 15 (.one 10 (.one 16 (.one 17 (.one 18 (.one 19 (.one 20 (.one 21 (.done))))))))))))))))))))))) (.one 3 (.one 4 (.one 5 (.alt (.one 1 (.one 6 (.one 7 (.one 8 (.one 9 (.one 11 (.alt (.one 10 (.one 12 (.one 13 (.one 14 (.one 15 (.one 16 (.one 17 (.one 18 (.one 19 (.one 20 (.one 21 (.done)))))))))))) (.one 12 (.one 13 (.one 14 (.alt (.one 10 (.one 15 (.one 16 (.one 17 (.one 18 (.one 19 (.one 20 (.one 21 (.done))))))))) (.one 15 (.one 10 (.one 16 (.one 17 (.one 18 (.one 19 (.one 20 (.one 21 (.done)))))))))))))))))))) (.one 6 (.one 1 (.one 7 (.one 8 (.one 9 (.one 11 (.alt (.one 10 (.one 12 (.one 13 (.one 14 (.one 15 (.one 16 (.one 17 (.one 18 (.one 19 (.one 20 (.one 21 (.done)))))))))))) (.one 12 (.one 13 (.one 14 (.alt (.one 10 (.one 15 (.one 16 (.one 17 (.one 18 (.one 19 (.one 20 (.one 21 (.done))))))))) (.one 15 (.one 10 (.one 16 (.one 17 (.one 18 (.one 19 (.one 20 (.one 21 (.done)))))))))))))))))))))))))) else .done
theorem O7_6 : O7 6 = .one 0 (.one 1 (.one 2 (.one 3 (.one 4 (.one 5 (.one 6 (.one 7 (.one 8 (.one 10 (.alt (.one 9 (.one 11 (.one 12 (.one 13 (.one 14 (.one 15 (.one 16 (.one 17 (.one 18 (.one 19 (.one 20 (.done)))))))))))) (.one 11 (.one 9 (.one 12 (.one 13 (.one 14 (.one 15 (.one 16 (.one 17 (.one 18 (.one 19 (.one 20 (.done)))))))))))))))))))))) := rfl
theorem O7_10 : O7 10 = .one 0 (.one 2 (.alt (.one 1 (.one 3 (.one 4 (.one 5 (.one 6 (.one 7 (.one 8 (.one 9 (.one 11 (.alt (.one 10 (.one 12 (.one 13 (.one 14 (.one 15 (.one 16 (.one 17 (.one 18 (.one 19 (.one 20 (.one 21 (.done)))))))))))) (.one 12 (.one 13 (.one 14 (.alt (.one 10 (.one 15 (.one 16 (.one 17 (.one 18 (.one 19 (.one 20 (.one 21 (.done))))))))) (.one 15 (.one 10 (.one 16 (.one 17 (.one 18 (.one 19 (.one 20 (.one 21 (.done))))))))))))))))))))))) (.one 3 (.one 4 (.one 5 (.alt (.one 1 (.one 6 (.one 7 (.one 8 (.one 9 (.one 11 (.alt (.one 10 (.one 12 (.one 13 (.one 14 (.one 15 (.one 16 (.one 17 (.one 18 (.one 19 (.one 20 (.one 21 (.done)))))))))))) (.one 12 (.one 13 (.one 14 (.alt (.one 10 (.one 15 (.one 16 (.one 17 (.one 18 (.one 19 (.one 20 (.one 21 (.done))))))))) (.one 15 (.one 10 (.one 16 (.one 17 (.one 18 (.one 19 (.one 20 (.one 21 (.done)))))))))))))))))))) (.one 6 (.one 1 (.one 7 (.one 8 (.one 9 (.one 11 (.alt (.one 10 (.one 12 (.one 13 (.one 14 (.one 15 (.one 16 (.one 17 (.one 18 (.one 19 (.one 20 (.one 21 (.done)))))))))))) (.one 12 (.one 13 (.one 14 (.alt (.one 10 (.one 15 (.one 16 (.one 17 (.one 18 (.one 19 (.one 20 (.one 21 (.done))))))))) (.one 15 (.one 10 (.one 16 (.one 17 (.one 18 (.one 19 (.one 20 (.one 21 (.done)))))))))))))))))))))))))) := rfl
theorem ho7 : Try.f7.body.map (okO O7) = some true := by kernel_rfl
def Cf7 : Nat → List AV → (AV → List AV → Sto → Prop) → Kt → List AV → Sto → Prop := fun f args K Q e s => match f with
  | 11 => ent11 args K e s
  | 12 => ent12 args K e s
  | 13 => ent13 args K e s
  | 14 => ent14 args K e s
  | 26 => ent26 args K e s
  | 27 => ent27 (AV.outs s args) K (mk _) e s
  | _ => False
def Ct7 : CT := { f := Cf7, y := noYld, z := fun d => false }
theorem ctz7 {d : Nat} : CT.z Ct7 d = (false) := id rfl
theorem Ct7_ok : Ct7.ok Try.prog := ok_of_f (fun f args K Q e s h => by
  have h : Cf7 f args K Q e s := h
  unfold Cf7 at h; split at h
  · exact ent11_ok h
  · exact ent12_ok h
  · exact ent13_ok h
  · exact ent14_ok h
  · exact ent26_ok h
  · exact ent27_ok h
  · exact h.elim) (fun _ _ _ _ _ _ _ _ _ h => h)
theorem x7_11 {l : List Ska} {most : Int} {KK : AV → List AV → Sto → Prop} {QQ : Kt} {ii : At KK} {jj : At QQ} {ee : List AV} {ss : Sto} : xC Ct7 11 [.d (.sl 3 (l.map Ska.c)), .d (.i most)] KK QQ ii jj ee ss = ((0 ≤ most ∧ most ≤ 1000) ∧ KK (.d (.b (great l most))) ee ss) := eq11
theorem x7_11_m1 {l : List Ska} {most : Int} {g1 el1 : Nat} {KK : AV → List AV → Sto → Prop} {QQ : Kt} {ii : At KK} {jj : At QQ} {ee : List AV} {ss : Sto} : xC Ct7 11 [.own g1 el1 3 (l.map Ska.c), .d (.i most)] KK QQ ii jj ee ss = ((0 ≤ most ∧ most ≤ 1000) ∧ (.b (great l most) : D).flat = true ∧ KK (.d (.b (great l most))) ee ss) := eqo11
theorem x7_12 {r : Rul} {l : List Ska} {KK : AV → List AV → Sto → Prop} {QQ : Kt} {ii : At KK} {jj : At QQ} {ee : List AV} {ss : Sto} : xC Ct7 12 [.d (r.d), .d (.sl 3 (l.map Ska.c))] KK QQ ii jj ee ss = ((l.length ≤ 1000) ∧ KK (.d (.b (conOk r l))) ee ss) := eq12
theorem x7_12_m1 {r : Rul} {l : List Ska} {g1 el1 : Nat} {KK : AV → List AV → Sto → Prop} {QQ : Kt} {ii : At KK} {jj : At QQ} {ee : List AV} {ss : Sto} : xC Ct7 12 [.d (r.d), .own g1 el1 3 (l.map Ska.c)] KK QQ ii jj ee ss = ((l.length ≤ 1000) ∧ (.b (conOk r l) : D).flat = true ∧ KK (.d (.b (conOk r l))) ee ss) := eqo12
theorem x7_13  {KK : AV → List AV → Sto → Prop} {QQ : Kt} {ii : At KK} {jj : At QQ} {ee : List AV} {ss : Sto} : xC Ct7 13 [] KK QQ ii jj ee ss = (KK (.d (.b true)) ee ss) := eq13
theorem x7_14 {l : List Ska} {KK : AV → List AV → Sto → Prop} {QQ : Kt} {ii : At KK} {jj : At QQ} {ee : List AV} {ss : Sto} : xC Ct7 14 [.d (.sl 3 (l.map Ska.c))] KK QQ ii jj ee ss = ((l.length ≤ 1000) ∧ KK (.d (.i (if (jud l).2 = true then (jud l).1 else -1))) ee ss) := eq14
theorem x7_14_m1 {l : List Ska} {g1 el1 : Nat} {KK : AV → List AV → Sto → Prop} {QQ : Kt} {ii : At KK} {jj : At QQ} {ee : List AV} {ss : Sto} : xC Ct7 14 [.own g1 el1 3 (l.map Ska.c)] KK QQ ii jj ee ss = ((l.length ≤ 1000) ∧ (.i (if (jud l).2 = true then (jud l).1 else -1) : D).flat = true ∧ KK (.d (.i (if (jud l).2 = true then (jud l).1 else -1))) ee ss) := eqo14
theorem x7_26 {r : Rul} {l : List Ska} {j : Int} {KK : AV → List AV → Sto → Prop} {QQ : Kt} {ii : At KK} {jj : At QQ} {ee : List AV} {ss : Sto} : xC Ct7 26 [.d (r.d), .d (.sl 3 (l.map Ska.c)), .d (.i j)] KK QQ ii jj ee ss = ((l.length ≤ 1000 ∧ ∀ s ∈ l, ∀ x ∈ s.calls, i64 x.place) ∧ KK (.d (.tup [.sl 2 ((swG r l j).1.map Spn.c), .i (swG r l j).2])) ee ss) := eq26
theorem x7_26_m1 {r : Rul} {l : List Ska} {j : Int} {g1 el1 : Nat} {KK : AV → List AV → Sto → Prop} {QQ : Kt} {ii : At KK} {jj : At QQ} {ee : List AV} {ss : Sto} : xC Ct7 26 [.d (r.d), .own g1 el1 3 (l.map Ska.c), .d (.i j)] KK QQ ii jj ee ss = ((l.length ≤ 1000 ∧ ∀ s ∈ l, ∀ x ∈ s.calls, i64 x.place) ∧ (.tup [.sl 2 ((swG r l j).1.map Spn.c), .i (swG r l j).2] : D).flat = true ∧ KK (.d (.tup [.sl 2 ((swG r l j).1.map Spn.c), .i (swG r l j).2])) ee ss) := eqo26
theorem x7_27 {args : List AV} {KK : AV → List AV → Sto → Prop} {QQ : Kt} {ii : At KK} {jj : At QQ} {ee : List AV} {ss : Sto} : xC Ct7 27 args KK QQ ii jj ee ss = ent27 (AV.outs ss args) KK (mk _) ee ss := id rfl
theorem c7 : callable Try.prog 7 = true := by kernel_rfl
theorem pf7 (r : Rul) (l : List Ska) (judge which : Int) (h : (∀ s ∈ l, ∀ x ∈ s.calls, i64 x.place) ∧ 0 ≤ which ∧ which ≤ 255) : PF Try.prog 7 [r.d, .sl 3 (l.map Ska.c), .i judge, .v (.int .u8 which)] (fun zz => zz = .ret (.b true)) := by
  obtain ⟨h0, u1, u2⟩ := h
  by_cases c1 : (80 : Int) < r.bases.length
  · refine PF_nil (PF_start (O := O7) Ct7_ok hmix ho7 Try.func7 c7 rfl Try.ntmps7 Try.results7 ?_)
    simp (maxSteps := 4000000) +contextual (disch := first | omega | exact qdb_ok (by kernel_rfl) | exact okb_ok (by kernel_rfl)) only [bw1,bw2,bw3,bw4,bw5,bw6,bw7,bc0,bc1,bc2,bc3,bc4,bc5,bc6,bc7,setPs,AV.owns,AV.datF,AV.frz,AV.cpy,ifV,isEqB,nilV,nilX,AV.isNilS,AV.isNoRows,wk,dclo,datOf,binIs,addF,AV.isPtr,idxV,AV.isSl,AV.isSlice,AV.rows,ps,pv,extV,extS,AV.outs,AV.outF,packD,AV.dl,fieldV,fieldS,AV.cells?,AV.upr,AV.menc,AV.one,D.one,Value.oneCell',tagOf,AV.isApp,strV,strS,bolV,bolS,slcV,AV.isSlD,asrtS,AV.dcells,D.cells?,stcV,stcS,leafOk,eqDs,eqD,packA,D.val?,↓reduceIte,reduceCtorEq,Nat.reduceAdd,Nat.reduceSub,Nat.reduceMul,List.reduceReplicate,Nat.reduceLeDiff,Nat.reduceLT,Nat.reduceBEq,Nat.reduceEqDiff,Int.reduceNeg,Int.reduceEq,Int.reduceLE,Int.reduceLT,tfb,ctz7,O7_6,O7_10,x7_11,x7_11_m1,x7_12,x7_12_m1,x7_13,x7_14,x7_14_m1,x7_26,x7_26_m1,x7_27,eq27,c1]
  by_cases c2 : great l 8 = true
  · refine PF_nil (PF_start (O := O7) Ct7_ok hmix ho7 Try.func7 c7 rfl Try.ntmps7 Try.results7 ?_)
    simp (maxSteps := 4000000) +contextual (disch := first | omega | exact qdb_ok (by kernel_rfl) | exact okb_ok (by kernel_rfl)) only [bw1,bw2,bw3,bw4,bw5,bw6,bw7,bc0,bc1,bc2,bc3,bc4,bc5,bc6,bc7,setPs,AV.owns,AV.datF,AV.frz,AV.cpy,ifV,isEqB,nilV,nilX,AV.isNilS,AV.isNoRows,wk,dclo,datOf,binIs,addF,AV.isPtr,idxV,AV.isSl,AV.isSlice,AV.rows,ps,pv,extV,extS,AV.outs,AV.outF,packD,AV.dl,fieldV,fieldS,AV.cells?,AV.upr,AV.menc,AV.one,D.one,Value.oneCell',tagOf,AV.isApp,strV,strS,bolV,bolS,slcV,AV.isSlD,asrtS,AV.dcells,D.cells?,stcV,stcS,leafOk,eqDs,eqD,packA,D.val?,↓reduceIte,reduceCtorEq,Nat.reduceAdd,Nat.reduceSub,Nat.reduceMul,List.reduceReplicate,Nat.reduceLeDiff,Nat.reduceLT,Nat.reduceBEq,Nat.reduceEqDiff,Int.reduceNeg,Int.reduceEq,Int.reduceLE,Int.reduceLT,tfb,ctz7,O7_6,O7_10,x7_11,x7_11_m1,x7_12,x7_12_m1,x7_13,x7_14,x7_14_m1,x7_26,x7_26_m1,x7_27,eq27,c1, c2]
  have hl8 : l.length ≤ 8 := by
    unfold great at c2
    simp only [Bool.or_eq_true, decide_eq_true_eq, not_or] at c2
    omega
  by_cases c3 : l.length = 0
  · have c3' : (l.length : Int) = 0 := by omega
    refine PF_nil (PF_start (O := O7) Ct7_ok hmix ho7 Try.func7 c7 rfl Try.ntmps7 Try.results7 ?_)
    simp (maxSteps := 4000000) +contextual (disch := first | omega | exact qdb_ok (by kernel_rfl) | exact okb_ok (by kernel_rfl)) only [bw1,bw2,bw3,bw4,bw5,bw6,bw7,bc0,bc1,bc2,bc3,bc4,bc5,bc6,bc7,setPs,AV.owns,AV.datF,AV.frz,AV.cpy,ifV,isEqB,nilV,nilX,AV.isNilS,AV.isNoRows,wk,dclo,datOf,binIs,addF,AV.isPtr,idxV,AV.isSl,AV.isSlice,AV.rows,ps,pv,extV,extS,AV.outs,AV.outF,packD,AV.dl,fieldV,fieldS,AV.cells?,AV.upr,AV.menc,AV.one,D.one,Value.oneCell',tagOf,AV.isApp,strV,strS,bolV,bolS,slcV,AV.isSlD,asrtS,AV.dcells,D.cells?,stcV,stcS,leafOk,eqDs,eqD,packA,D.val?,↓reduceIte,reduceCtorEq,Nat.reduceAdd,Nat.reduceSub,Nat.reduceMul,List.reduceReplicate,Nat.reduceLeDiff,Nat.reduceLT,Nat.reduceBEq,Nat.reduceEqDiff,Int.reduceNeg,Int.reduceEq,Int.reduceLE,Int.reduceLT,tfb,ctz7,O7_6,O7_10,x7_11,x7_11_m1,x7_12,x7_12_m1,x7_13,x7_14,x7_14_m1,x7_26,x7_26_m1,x7_27,eq27,c1, c2, c3, c3']
  have c3' : ¬ (l.length : Int) = 0 := by omega
  have c3'' : ((l.length : Int) == 0) = false := by simpa using c3'
  have hl3 : l.length ≤ 1000 := by omega
  by_cases e1 : (swG r l judge).2 = 0
  case neg =>
    have hn := swG_no e1
    have e1' : ((swG r l judge).2 == 0) = false := by simpa using e1
    refine PF_nil (PF_start (O := O7) Ct7_ok hmix ho7 Try.func7 c7 rfl Try.ntmps7 Try.results7 ?_)
    simp (maxSteps := 4000000) +contextual (disch := first | omega | exact qdb_ok (by kernel_rfl) | exact okb_ok (by kernel_rfl)) only [bw1,bw2,bw3,bw4,bw5,bw6,bw7,bc0,bc1,bc2,bc3,bc4,bc5,bc6,bc7,setPs,AV.owns,AV.datF,AV.frz,AV.cpy,ifV,isEqB,nilV,nilX,AV.isNilS,AV.isNoRows,wk,dclo,datOf,binIs,addF,AV.isPtr,idxV,AV.isSl,AV.isSlice,AV.rows,ps,pv,extV,extS,AV.outs,AV.outF,packD,AV.dl,fieldV,fieldS,AV.cells?,AV.upr,AV.menc,AV.one,D.one,Value.oneCell',tagOf,AV.isApp,strV,strS,bolV,bolS,slcV,AV.isSlD,asrtS,AV.dcells,D.cells?,stcV,stcS,leafOk,eqDs,eqD,packA,D.val?,↓reduceIte,reduceCtorEq,Nat.reduceAdd,Nat.reduceSub,Nat.reduceMul,List.reduceReplicate,Nat.reduceLeDiff,Nat.reduceLT,Nat.reduceBEq,Nat.reduceEqDiff,Int.reduceNeg,Int.reduceEq,Int.reduceLE,Int.reduceLT,tfb,ctz7,O7_6,O7_10,x7_11,x7_11_m1,x7_12,x7_12_m1,x7_13,x7_14,x7_14_m1,x7_26,x7_26_m1,x7_27,eq27,c1, c2, c3, c3', c3'', e1, e1', hn, hl3]
    exact h0
  obtain ⟨hE, hin, hsw⟩ := swG_yes e1
  obtain ⟨hco, hl40⟩ := err_ok hE
  obtain ⟨hj0, hj1⟩ := inB_iff.1 hin
  obtain ⟨j, rfl⟩ : ∃ k : Nat, judge = k := ⟨judge.toNat, by omega⟩
  rw [Int.toNat_natCast] at hsw
  have hj2 := jud_two (l := l) (by omega)
  have hjl : (j : Int) < (jud l).1 := by omega
  have hjn : ¬ (j : Int) < 0 := by omega
  have hjg : ¬ (jud l).1 ≤ (j : Int) := by omega
  have hsl := swR_len (r := r) (l := l) (j := j)
  obtain ⟨w, hw⟩ : ∃ k : Nat, k = which.toNat % l.length := ⟨_, rfl⟩
  have hwl : w < l.length := by rw [hw]; exact Nat.mod_lt _ (by omega)
  have hwl' : (w : Int) < l.length := by omega
  have hw1 : which % (l.length : Int) = w := by
    have e : which = (which.toNat : Int) := by omega
    rw [hw, e, Int.toNat_natCast, Int.natCast_emod]
  have p1 := pl_lo (r := r) (j := j) hwl
  have p2 := pl_hi (r := r) (j := j) hwl
  refine PF_nil (PF_start (O := O7) Ct7_ok hmix ho7 Try.func7 c7 rfl Try.ntmps7 Try.results7 ?_)
  simp (maxSteps := 4000000) +contextual (disch := first | omega | exact qdb_ok (by kernel_rfl) | exact okb_ok (by kernel_rfl)) only [bw1,bw2,bw3,bw4,bw5,bw6,bw7,bc0,bc1,bc2,bc3,bc4,bc5,bc6,bc7,setPs,AV.owns,AV.datF,AV.frz,AV.cpy,ifV,isEqB,nilV,nilX,AV.isNilS,AV.isNoRows,wk,dclo,datOf,binIs,addF,AV.isPtr,idxV,AV.isSl,AV.isSlice,AV.rows,ps,pv,extV,extS,AV.outs,AV.outF,packD,AV.dl,fieldV,fieldS,AV.cells?,AV.upr,AV.menc,AV.one,D.one,Value.oneCell',tagOf,AV.isApp,strV,strS,bolV,bolS,slcV,AV.isSlD,asrtS,AV.dcells,D.cells?,stcV,stcS,leafOk,eqDs,eqD,packA,D.val?,↓reduceIte,reduceCtorEq,Nat.reduceAdd,Nat.reduceSub,Nat.reduceMul,List.reduceReplicate,Nat.reduceLeDiff,Nat.reduceLT,Nat.reduceBEq,Nat.reduceEqDiff,Int.reduceNeg,Int.reduceEq,Int.reduceLE,Int.reduceLT,tfb,ctz7,O7_6,O7_10,x7_11,x7_11_m1,x7_12,x7_12_m1,x7_13,x7_14,x7_14_m1,x7_26,x7_26_m1,x7_27,eq27,c1, c2, c3, c3', c3'', hsw, hl3, hco, hj2, hjn, hjg, hsl, hw1, hwl', bne_self_eq_false]
  have q1 : l.length ≤ 40 ∧ (j : Int) < (jud l).1 ∧ w < l.length := ⟨hl40, hjl, hwl⟩
  rw [if_pos p1]
  exact ⟨h0, ⟨q1, rfl, by omega, ⟨q1, rfl, by omega, fun h => h p2⟩, by omega, q1, rfl, fun h => h p2⟩, by omega, q1, rfl, ⟨q1, rfl, by omega, fun h => h p2⟩, by omega, q1, rfl, fun h => h p2⟩
end Go.Proofs.Ytapglfcaghlpfaa
