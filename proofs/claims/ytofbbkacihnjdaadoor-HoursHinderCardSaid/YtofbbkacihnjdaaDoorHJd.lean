/- A part of the proof that the last text ends: what functions of the program do, told by plain data. -/
import Derived.Test.YtofbbkacihnjdaaDoorHZ
import Derived.Test.YtofbbkacihnjdaaDoorHPf
import Derived.Test.YtofbbkacihnjdaaDoorEc
set_option linter.unusedVariables false
set_option linter.unusedSimpArgs false
namespace Go.Proofs.YtofbbkacihnjdaaDoor.M8
open Go Go.E Go.Maps
set_option maxRecDepth 100000
set_option maxHeartbeats 4000000
def O8 : Nat → Sch := fun id => if id = 8 then .one 1 (.one 2 (.one 4 (.alt (.one 0 (.alt (.one 3 (.one 5 (.one 6 (.one 7 (.one 8 (.done)))))) (.one 5 (.one 6 (.one 3 (.one 7 (.one 8 (.done)))))))) (.alt (.one 3 (.one 0 (.one 5 (.one 6 (.one 7 (.one 8 (.done))))))) (.one 5 (.one 6 (.alt (.one 0 (.one 3 (.one 7 (.one 8 (.done))))) (.one 3 (.one 0 (.one 7 (.one 8 (.done)))))))))))) else if id = 13 then .one 0 (.one 1 (.one 2 (.one 3 (.one 4 (.one 5 (.one 6 (.one 7 (.one 8 (.one 9 (.one 10 (.one 11 (.one 12 (.one 13 (.one 14 (.one 15 (.one 16 (.one 17 (.one 18 (.one 19 (.one 20 (.one 21 (.one 22 (.one 23 (.one 24 (.one 25 (.one 26 (.one 27 (.one 28 (.one 29 (.done)))))))))))))))))))))))))))))) else if id = 15 then .one 0 (.one 1 (.one 2 (.one 3 (.one 4 (.one 5 (.one 6 (.one 7 (.one 8 (.one 9 (.one 10 (.one 11 (.one 12 (.one 13 (.one 14 (.one 15 (.one 16 (.one 17 (.one 18 (.done))))))))))))))))))) else if id = 26 then .one 0 (.one 1 (.one 2 (.one 3 (.one 4 (.one 5 (.one 6 (.one 7 (.one 8 (.one 9 (.one 10 (.one 11 (.one 12 (.one 13 (.done)))))))))))))) else if id = 34 then .one 0 (.one 1 (.one 2 (.one 3 (.one 4 (.one 5 (.one 6 (.one 7 (.one 8 (.one 9 (.one 10 (.one 11 (.one 12 (.one 13 (.one 14 (.one 15 (.one 16 (.one 17 (.one 18 (.one 19 (.one 20 (.one 21 (.one 22 (.one 23 (.one 24 (.one 25 (.done)))))))))))))))))))))))))) else if id = 44 then .one 0 (.one 1 (.one 2 (.one 3 (.one 4 (.one 5 (.one 6 (.one 7 (.done)))))))) else .done
theorem O8_8 : O8 8 = .one 1 (.one 2 (.one 4 (.alt (.one 0 (.alt (.one 3 (.one 5 (.one 6 (.one 7 (.one 8 (.done)))))) (.one 5 (.one 6 (.one 3 (.one 7 (.one 8 (.done)))))))) (.alt (.one 3 (.one 0 (.one 5 (.one 6 (.one 7 (.one 8 (.done))))))) (.one 5 (.one 6 (.alt (.one 0 (.one 3 (.one 7 (.one 8 (.done))))) (.one 3 (.one 0 (.one 7 (.one 8 (.done)))))))))))) := rfl
theorem O8_13 : O8 13 = .one 0 (.one 1 (.one 2 (.one 3 (.one 4 (.one 5 (.one 6 (.one 7 (.one 8 (.one 9 (.one 10 (.one 11 (.one 12 (.one 13 (.one 14 (.one 15 (.one 16 (.one 17 (.one 18 (.one 19 (.one 20 (.one 21 (.one 22 (.one 23 (.one 24 (.one 25 (.one 26 (.one 27 (.one 28 (.one 29 (.done)))))))))))))))))))))))))))))) := rfl
theorem O8_15 : O8 15 = .one 0 (.one 1 (.one 2 (.one 3 (.one 4 (.one 5 (.one 6 (.one 7 (.one 8 (.one 9 (.one 10 (.one 11 (.one 12 (.one 13 (.one 14 (.one 15 (.one 16 (.one 17 (.one 18 (.done))))))))))))))))))) := rfl
theorem O8_26 : O8 26 = .one 0 (.one 1 (.one 2 (.one 3 (.one 4 (.one 5 (.one 6 (.one 7 (.one 8 (.one 9 (.one 10 (.one 11 (.one 12 (.one 13 (.done)))))))))))))) := rfl
theorem O8_34 : O8 34 = .one 0 (.one 1 (.one 2 (.one 3 (.one 4 (.one 5 (.one 6 (.one 7 (.one 8 (.one 9 (.one 10 (.one 11 (.one 12 (.one 13 (.one 14 (.one 15 (.one 16 (.one 17 (.one 18 (.one 19 (.one 20 (.one 21 (.one 22 (.one 23 (.one 24 (.one 25 (.done)))))))))))))))))))))))))) := rfl
theorem O8_44 : O8 44 = .one 0 (.one 1 (.one 2 (.one 3 (.one 4 (.one 5 (.one 6 (.one 7 (.done)))))))) := rfl
theorem ho8 : Tryd.f8.body.map (okO O8) = some true := by kernel_rfl
def Cf8 : Nat → List AV → (AV → List AV → Sto → Prop) → Kt → List AV → Sto → Prop := fun f args K Q e s => match f with
  | 9 => sp9 args K e s
  | 16 => sp16 args K e s
  | 18 => sp18 args K e s
  | 20 => ent20 args K e s
  | 21 => ent21 args K e s
  | 23 => ent23 args K e s
  | 27 => ent27 args K e s
  | 29 => ent29 args K e s
  | _ => False
def Ct8 : CT := { f := Cf8, y := noYld, z := fun d => false }
theorem ctz8 {d : Nat} : CT.z Ct8 d = (false) := id rfl
theorem Ct8_ok : Ct8.ok Tryd.prog := ok_of_f (fun f args K Q e s h => by
  have h : Cf8 f args K Q e s := h
  unfold Cf8 at h; split at h
  · exact sp9_ok h
  · exact sp16_ok h
  · exact sp18_ok h
  · exact ent20_ok h
  · exact ent21_ok h
  · exact ent23_ok h
  · exact ent27_ok h
  · exact ent29_ok h
  · exact h.elim) (fun _ _ _ _ _ _ _ _ _ h => h)
theorem x8_20 {t : Tt} {KK : AV → List AV → Sto → Prop} {QQ : Kt} {ii : At KK} {jj : At QQ} {ee : List AV} {ss : Sto} : xC Ct8 20 [.d (.agg t.c)] KK QQ ii jj ee ss = (KK (.d (.b (lgT t))) ee ss) := eq20
theorem x8_21 {t : Tt} {KK : AV → List AV → Sto → Prop} {QQ : Kt} {ii : At KK} {jj : At QQ} {ee : List AV} {ss : Sto} : xC Ct8 21 [.d (.agg t.c)] KK QQ ii jj ee ss = ((t.hours.length ≤ 1000 ∧ t.groups.length ≤ 1000) ∧ KK (.d (.b (ttOk t))) ee ss) := eq21
theorem x8_23 {t : Tt} {bs : List Int} {KK : AV → List AV → Sto → Prop} {QQ : Kt} {ii : At KK} {jj : At QQ} {ee : List AV} {ss : Sto} : xC Ct8 23 [.d (.agg t.c), .d (.sl 1 (bs.map bc))] KK QQ ii jj ee ss = ((ttOk t = true ∧ 0 < bs.length ∧ ∀ b ∈ bs, 0 ≤ b ∧ b ≤ 255) ∧ KK (.d (.sl 1 ((otN t bs t.hours.length).map ic))) ee ss) := eq23
theorem x8_23_m1 {t : Tt} {bs : List Int} {g1 el1 : Nat} {KK : AV → List AV → Sto → Prop} {QQ : Kt} {ii : At KK} {jj : At QQ} {ee : List AV} {ss : Sto} : xC Ct8 23 [.d (.agg t.c), .own g1 el1 1 (bs.map bc)] KK QQ ii jj ee ss = ((ttOk t = true ∧ 0 < bs.length ∧ ∀ b ∈ bs, 0 ≤ b ∧ b ≤ 255) ∧ KK (.d (.sl 1 ((otN t bs t.hours.length).map ic))) ee ss) := eqo23
theorem x8_27 {t : Tt} {p : List Int} {KK : AV → List AV → Sto → Prop} {QQ : Kt} {ii : At KK} {jj : At QQ} {ee : List AV} {ss : Sto} : xC Ct8 27 [.d (.agg t.c), .d (.sl 1 (p.map ic))] KK QQ ii jj ee ss = ((t.groups.length ≤ 1000 ∧ p.length ≤ 1000) ∧ KK (.d (.b (plOk t p))) ee ss) := eq27
theorem x8_27_m1 {t : Tt} {p : List Int} {g1 el1 : Nat} {KK : AV → List AV → Sto → Prop} {QQ : Kt} {ii : At KK} {jj : At QQ} {ee : List AV} {ss : Sto} : xC Ct8 27 [.d (.agg t.c), .own g1 el1 1 (p.map ic)] KK QQ ii jj ee ss = ((t.groups.length ≤ 1000 ∧ p.length ≤ 1000) ∧ (.b (plOk t p) : D).flat = true ∧ KK (.d (.b (plOk t p))) ee ss) := eqo27
theorem x8_29 {t : Tt} {p : List Int} {f : Nat} {KK : AV → List AV → Sto → Prop} {QQ : Kt} {ii : At KK} {jj : At QQ} {ee : List AV} {ss : Sto} : xC Ct8 29 [.d (.agg t.c), .d (.sl 1 (p.map ic)), .d (.i (f : Int))] KK QQ ii jj ee ss = (((t.groups.length ≤ 1000 ∧ f ≤ p.length ∧ p.length ≤ 1000) ∧ ∀ j, j < f → -1 ≤ p.getD j default ∧ p.getD j default < t.groups.length) ∧ KK (.own 29001 3 1 ((cnL t.groups.length p f).map ic)) (ee.map (AV.kill 29001)) (ss.kill 29001)) := eq29
theorem c8 : callable Tryd.prog 8 = true := by kernel_rfl
def enL (q p H : List Int) : Nat → Bool
  | 0 => true
  | i + 1 => enL q p H i && decide (p.getD (H.getD i default).toNat default ≤ (cnG q q.length (H.getD i default) : Int))
theorem enL_up {q p H : List Int} {i : Nat} (h : enL q p H (i + 1) = true) : enL q p H i = true := by
  unfold enL at h; rw [Bool.and_eq_true] at h; exact h.1
theorem enL_all {q p H : List Int} : ∀ n, enL q p H n = true → ∀ i, i < n → p.getD (H.getD i default).toNat default ≤ (cnG q q.length (H.getD i default) : Int)
  | 0, _, i, hi => by omega
  | n + 1, h, i, hi => by
    rcases Nat.lt_succ_iff_lt_or_eq.1 hi with h' | h'
    · exact enL_all n (enL_up h) i h'
    · unfold enL at h
      rw [Bool.and_eq_true] at h
      rw [h']; exact of_decide_eq_true h.2
def smN (t : Tt) (p : List Int) : Nat → Bool
  | 0 => true
  | i + 1 => smN t p i && (decide (p.getD i default = p.getD 0 default) && decide ((t.groups.getD i default).cred = (t.groups.getD 0 default).cred))
theorem smN_all {t : Tt} {p : List Int} : ∀ n, smN t p n = true → ∀ i, i < n → p.getD i default = p.getD 0 default ∧ (t.groups.getD i default).cred = (t.groups.getD 0 default).cred
  | 0, _, i, hi => by omega
  | n + 1, h, i, hi => by
    unfold smN at h
    simp only [Bool.and_eq_true, decide_eq_true_eq] at h
    rcases Nat.lt_succ_iff_lt_or_eq.1 hi with h' | h'
    · exact smN_all n h.1 i h'
    · rw [h']; exact h.2
theorem lg_sz8 {t : Tt} (h : ¬ lgT t = true) : t.groups.length ≤ 8 ∧ t.hours.length ≤ 14 := by
  unfold lgT at h
  simp only [Bool.or_eq_true, decide_eq_true_eq, not_or] at h
  omega
theorem call18n {C : CT} {args e : List AV} {s : Sto} {K : AV → List AV → Sto → Prop} {Q : Kt} {i : At K} {j : At Q} (hC : ∀ {args K Q e s} {i : At K} {j : At Q}, xC C 18 args K Q i j e s = sp18 args K e s) (t : Tt) (p : List Int) {H : List Int} {x : Int} (k : Nat) (hr : hiR t p = (H, x)) (h1 : szT t ∧ p.length ≤ 1000) (h2 : k ≠ 0) (h3 : s.get k = none) (h4 : (s.frz k 3 1).get 5000000001 = some [.d (.ptr gtb 0)]) (h5 : args.map (AV.frz k 3 1) = [.d (.agg t.c), .d (.sl 1 (p.map ic))]) (h6 : K (.d (.tup [.sl 1 (H.map ic), .i x])) (e.map (AV.frz k 3 1)) (s.frz k 3 1)) : xC C 18 args K Q i j e s :=
  call18x hC t p k h1 h2 h3 h4 h5 (by rw [hr]; exact h6)
theorem pf8 (t : Tt) (p bs : List Int) (hbs : ∀ b ∈ bs, 0 ≤ b ∧ b ≤ 255) : PFG Tryd.prog 8 1 gtb [.agg t.c, .sl 1 (p.map ic), .sl 1 (bs.map bc)] (fun zz => zz = .ret (.b true)) := by
  by_cases g1 : lgT t = true
  case pos =>
    refine PFG_nil (PFG_start (O := O8) Ct8_ok hmix ho8 Tryd.func8 c8 rfl Tryd.ntmps8 Tryd.results8 ?_)
    simp (maxSteps := 4000000) +contextual (disch := first | omega | exact qdb_ok (by kernel_rfl) | exact okb_ok (by kernel_rfl)) only [bw1,bw2,bw3,bw4,bw5,bw6,bw7,bc0,bc1,bc2,bc3,bc4,bc5,bc6,bc7,bb0,setPs,AV.owns,AV.datF,AV.frz,AV.cpy,ifV,isEqB,nilV,nilX,AV.isNilS,AV.isNoRows,wk,dclo,datOf,binIs,addF,AV.isPtr,idxV,AV.isSl,AV.isSlice,AV.rows,ps,pv,extV,extS,AV.outs,AV.outF,packD,AV.dl,fieldV,fieldS,AV.cells?,AV.upr,AV.menc,AV.one,D.one,Value.oneCell',tagOf,AV.isApp,strV,strS,bolV,bolS,slcV,AV.isSlD,asrtS,AV.dcells,D.cells?,stcV,stcS,leafOk,eqDs,eqD,packA,D.val?,↓reduceIte,reduceCtorEq,Nat.reduceAdd,Nat.reduceSub,Nat.reduceMul,List.reduceReplicate,Nat.reduceLeDiff,Nat.reduceLT,Nat.reduceBEq,Nat.reduceEqDiff,Int.reduceNeg,Int.reduceEq,Int.reduceLE,Int.reduceLT,tfb,D.flat,D.flats,av_glob,n_seq,ctz8,O8_8,O8_13,O8_15,O8_26,O8_34,O8_44,x8_20,x8_21,x8_23,x8_23_m1,x8_27,x8_27_m1,x8_29,g1]
    refine call9x (C := Ct8) (i := mk _) (j := mk _) rfl rfl rfl ?_
    simp (maxSteps := 4000000) +contextual (disch := first | omega | exact qdb_ok (by kernel_rfl) | exact okb_ok (by kernel_rfl)) only [bw1,bw2,bw3,bw4,bw5,bw6,bw7,bc0,bc1,bc2,bc3,bc4,bc5,bc6,bc7,bb0,setPs,AV.owns,AV.datF,AV.frz,AV.cpy,ifV,isEqB,nilV,nilX,AV.isNilS,AV.isNoRows,wk,dclo,datOf,binIs,addF,AV.isPtr,idxV,AV.isSl,AV.isSlice,AV.rows,ps,pv,extV,extS,AV.outs,AV.outF,packD,AV.dl,fieldV,fieldS,AV.cells?,AV.upr,AV.menc,AV.one,D.one,Value.oneCell',tagOf,AV.isApp,strV,strS,bolV,bolS,slcV,AV.isSlD,asrtS,AV.dcells,D.cells?,stcV,stcS,leafOk,eqDs,eqD,packA,D.val?,↓reduceIte,reduceCtorEq,Nat.reduceAdd,Nat.reduceSub,Nat.reduceMul,List.reduceReplicate,Nat.reduceLeDiff,Nat.reduceLT,Nat.reduceBEq,Nat.reduceEqDiff,Int.reduceNeg,Int.reduceEq,Int.reduceLE,Int.reduceLT,tfb,D.flat,D.flats,av_glob,n_seq,ctz8,O8_8,O8_13,O8_15,O8_26,O8_34,O8_44,x8_20,x8_21,x8_23,x8_23_m1,x8_27,x8_27_m1,x8_29]
  by_cases g2 : p.length ≤ 10
  case neg =>
    have g2' : (10 : Int) < p.length := by omega
    refine PFG_nil (PFG_start (O := O8) Ct8_ok hmix ho8 Tryd.func8 c8 rfl Tryd.ntmps8 Tryd.results8 ?_)
    simp (maxSteps := 4000000) +contextual (disch := first | omega | exact qdb_ok (by kernel_rfl) | exact okb_ok (by kernel_rfl)) only [bw1,bw2,bw3,bw4,bw5,bw6,bw7,bc0,bc1,bc2,bc3,bc4,bc5,bc6,bc7,bb0,setPs,AV.owns,AV.datF,AV.frz,AV.cpy,ifV,isEqB,nilV,nilX,AV.isNilS,AV.isNoRows,wk,dclo,datOf,binIs,addF,AV.isPtr,idxV,AV.isSl,AV.isSlice,AV.rows,ps,pv,extV,extS,AV.outs,AV.outF,packD,AV.dl,fieldV,fieldS,AV.cells?,AV.upr,AV.menc,AV.one,D.one,Value.oneCell',tagOf,AV.isApp,strV,strS,bolV,bolS,slcV,AV.isSlD,asrtS,AV.dcells,D.cells?,stcV,stcS,leafOk,eqDs,eqD,packA,D.val?,↓reduceIte,reduceCtorEq,Nat.reduceAdd,Nat.reduceSub,Nat.reduceMul,List.reduceReplicate,Nat.reduceLeDiff,Nat.reduceLT,Nat.reduceBEq,Nat.reduceEqDiff,Int.reduceNeg,Int.reduceEq,Int.reduceLE,Int.reduceLT,tfb,D.flat,D.flats,av_glob,n_seq,ctz8,O8_8,O8_13,O8_15,O8_26,O8_34,O8_44,x8_20,x8_21,x8_23,x8_23_m1,x8_27,x8_27_m1,x8_29,g1, g2']
    refine call9x (C := Ct8) (i := mk _) (j := mk _) rfl rfl rfl ?_
    simp (maxSteps := 4000000) +contextual (disch := first | omega | exact qdb_ok (by kernel_rfl) | exact okb_ok (by kernel_rfl)) only [bw1,bw2,bw3,bw4,bw5,bw6,bw7,bc0,bc1,bc2,bc3,bc4,bc5,bc6,bc7,bb0,setPs,AV.owns,AV.datF,AV.frz,AV.cpy,ifV,isEqB,nilV,nilX,AV.isNilS,AV.isNoRows,wk,dclo,datOf,binIs,addF,AV.isPtr,idxV,AV.isSl,AV.isSlice,AV.rows,ps,pv,extV,extS,AV.outs,AV.outF,packD,AV.dl,fieldV,fieldS,AV.cells?,AV.upr,AV.menc,AV.one,D.one,Value.oneCell',tagOf,AV.isApp,strV,strS,bolV,bolS,slcV,AV.isSlD,asrtS,AV.dcells,D.cells?,stcV,stcS,leafOk,eqDs,eqD,packA,D.val?,↓reduceIte,reduceCtorEq,Nat.reduceAdd,Nat.reduceSub,Nat.reduceMul,List.reduceReplicate,Nat.reduceLeDiff,Nat.reduceLT,Nat.reduceBEq,Nat.reduceEqDiff,Int.reduceNeg,Int.reduceEq,Int.reduceLE,Int.reduceLT,tfb,D.flat,D.flats,av_glob,n_seq,ctz8,O8_8,O8_13,O8_15,O8_26,O8_34,O8_44,x8_20,x8_21,x8_23,x8_23_m1,x8_27,x8_27_m1,x8_29]
  have g2' : ¬ (10 : Int) < p.length := by omega
  by_cases g3 : bs.length = 0
  case pos =>
    refine PFG_nil (PFG_start (O := O8) Ct8_ok hmix ho8 Tryd.func8 c8 rfl Tryd.ntmps8 Tryd.results8 ?_)
    simp (maxSteps := 4000000) +contextual (disch := first | omega | exact qdb_ok (by kernel_rfl) | exact okb_ok (by kernel_rfl)) only [bw1,bw2,bw3,bw4,bw5,bw6,bw7,bc0,bc1,bc2,bc3,bc4,bc5,bc6,bc7,bb0,setPs,AV.owns,AV.datF,AV.frz,AV.cpy,ifV,isEqB,nilV,nilX,AV.isNilS,AV.isNoRows,wk,dclo,datOf,binIs,addF,AV.isPtr,idxV,AV.isSl,AV.isSlice,AV.rows,ps,pv,extV,extS,AV.outs,AV.outF,packD,AV.dl,fieldV,fieldS,AV.cells?,AV.upr,AV.menc,AV.one,D.one,Value.oneCell',tagOf,AV.isApp,strV,strS,bolV,bolS,slcV,AV.isSlD,asrtS,AV.dcells,D.cells?,stcV,stcS,leafOk,eqDs,eqD,packA,D.val?,↓reduceIte,reduceCtorEq,Nat.reduceAdd,Nat.reduceSub,Nat.reduceMul,List.reduceReplicate,Nat.reduceLeDiff,Nat.reduceLT,Nat.reduceBEq,Nat.reduceEqDiff,Int.reduceNeg,Int.reduceEq,Int.reduceLE,Int.reduceLT,tfb,D.flat,D.flats,av_glob,n_seq,ctz8,O8_8,O8_13,O8_15,O8_26,O8_34,O8_44,x8_20,x8_21,x8_23,x8_23_m1,x8_27,x8_27_m1,x8_29,g1, g2', g3]
    refine call9x (C := Ct8) (i := mk _) (j := mk _) rfl rfl rfl ?_
    simp (maxSteps := 4000000) +contextual (disch := first | omega | exact qdb_ok (by kernel_rfl) | exact okb_ok (by kernel_rfl)) only [bw1,bw2,bw3,bw4,bw5,bw6,bw7,bc0,bc1,bc2,bc3,bc4,bc5,bc6,bc7,bb0,setPs,AV.owns,AV.datF,AV.frz,AV.cpy,ifV,isEqB,nilV,nilX,AV.isNilS,AV.isNoRows,wk,dclo,datOf,binIs,addF,AV.isPtr,idxV,AV.isSl,AV.isSlice,AV.rows,ps,pv,extV,extS,AV.outs,AV.outF,packD,AV.dl,fieldV,fieldS,AV.cells?,AV.upr,AV.menc,AV.one,D.one,Value.oneCell',tagOf,AV.isApp,strV,strS,bolV,bolS,slcV,AV.isSlD,asrtS,AV.dcells,D.cells?,stcV,stcS,leafOk,eqDs,eqD,packA,D.val?,↓reduceIte,reduceCtorEq,Nat.reduceAdd,Nat.reduceSub,Nat.reduceMul,List.reduceReplicate,Nat.reduceLeDiff,Nat.reduceLT,Nat.reduceBEq,Nat.reduceEqDiff,Int.reduceNeg,Int.reduceEq,Int.reduceLE,Int.reduceLT,tfb,D.flat,D.flats,av_glob,n_seq,ctz8,O8_8,O8_13,O8_15,O8_26,O8_34,O8_44,x8_20,x8_21,x8_23,x8_23_m1,x8_27,x8_27_m1,x8_29]
  have g3' : ((bs.length : Int) == 0) = false := by rw [beq_eq_false_iff_ne]; omega
  have hsz0 := lg_sz8 g1
  have hsz : szT t := ⟨by omega, by omega⟩
  have hszp : t.hours.length ≤ 1000 ∧ t.groups.length ≤ 1000 := hsz
  have hsp : szT t ∧ p.length ≤ 1000 := ⟨hsz, by omega⟩
  by_cases ht : ttOk t = true
  case neg =>
    have hhi : hiR t p = ([], 1) := by unfold hiR; rw [if_neg ht]
    refine PFG_nil (PFG_start (O := O8) Ct8_ok hmix ho8 Tryd.func8 c8 rfl Tryd.ntmps8 Tryd.results8 ?_)
    simp (maxSteps := 4000000) +contextual (disch := first | omega | exact qdb_ok (by kernel_rfl) | exact okb_ok (by kernel_rfl)) only [bw1,bw2,bw3,bw4,bw5,bw6,bw7,bc0,bc1,bc2,bc3,bc4,bc5,bc6,bc7,bb0,setPs,AV.owns,AV.datF,AV.frz,AV.cpy,ifV,isEqB,nilV,nilX,AV.isNilS,AV.isNoRows,wk,dclo,datOf,binIs,addF,AV.isPtr,idxV,AV.isSl,AV.isSlice,AV.rows,ps,pv,extV,extS,AV.outs,AV.outF,packD,AV.dl,fieldV,fieldS,AV.cells?,AV.upr,AV.menc,AV.one,D.one,Value.oneCell',tagOf,AV.isApp,strV,strS,bolV,bolS,slcV,AV.isSlD,asrtS,AV.dcells,D.cells?,stcV,stcS,leafOk,eqDs,eqD,packA,D.val?,↓reduceIte,reduceCtorEq,Nat.reduceAdd,Nat.reduceSub,Nat.reduceMul,List.reduceReplicate,Nat.reduceLeDiff,Nat.reduceLT,Nat.reduceBEq,Nat.reduceEqDiff,Int.reduceNeg,Int.reduceEq,Int.reduceLE,Int.reduceLT,tfb,D.flat,D.flats,av_glob,n_seq,ctz8,O8_8,O8_13,O8_15,O8_26,O8_34,O8_44,x8_20,x8_21,x8_23,x8_23_m1,x8_27,x8_27_m1,x8_29,g1, g2', g3']
    refine call18n (C := Ct8) (i := mk _) (j := mk _) rfl t p 9999 hhi hsp (by decide) rfl rfl rfl ?_
    simp (maxSteps := 4000000) +contextual (disch := first | omega | exact qdb_ok (by kernel_rfl) | exact okb_ok (by kernel_rfl)) only [bw1,bw2,bw3,bw4,bw5,bw6,bw7,bc0,bc1,bc2,bc3,bc4,bc5,bc6,bc7,bb0,setPs,AV.owns,AV.datF,AV.frz,AV.cpy,ifV,isEqB,nilV,nilX,AV.isNilS,AV.isNoRows,wk,dclo,datOf,binIs,addF,AV.isPtr,idxV,AV.isSl,AV.isSlice,AV.rows,ps,pv,extV,extS,AV.outs,AV.outF,packD,AV.dl,fieldV,fieldS,AV.cells?,AV.upr,AV.menc,AV.one,D.one,Value.oneCell',tagOf,AV.isApp,strV,strS,bolV,bolS,slcV,AV.isSlD,asrtS,AV.dcells,D.cells?,stcV,stcS,leafOk,eqDs,eqD,packA,D.val?,↓reduceIte,reduceCtorEq,Nat.reduceAdd,Nat.reduceSub,Nat.reduceMul,List.reduceReplicate,Nat.reduceLeDiff,Nat.reduceLT,Nat.reduceBEq,Nat.reduceEqDiff,Int.reduceNeg,Int.reduceEq,Int.reduceLE,Int.reduceLT,tfb,D.flat,D.flats,av_glob,n_seq,ctz8,O8_8,O8_13,O8_15,O8_26,O8_34,O8_44,x8_20,x8_21,x8_23,x8_23_m1,x8_27,x8_27_m1,x8_29,Sto.frz, AV.frz]
    refine call9x (C := Ct8) (i := mk _) (j := mk _) rfl rfl rfl ?_
    simp (maxSteps := 4000000) +contextual (disch := first | omega | exact qdb_ok (by kernel_rfl) | exact okb_ok (by kernel_rfl)) only [bw1,bw2,bw3,bw4,bw5,bw6,bw7,bc0,bc1,bc2,bc3,bc4,bc5,bc6,bc7,bb0,setPs,AV.owns,AV.datF,AV.frz,AV.cpy,ifV,isEqB,nilV,nilX,AV.isNilS,AV.isNoRows,wk,dclo,datOf,binIs,addF,AV.isPtr,idxV,AV.isSl,AV.isSlice,AV.rows,ps,pv,extV,extS,AV.outs,AV.outF,packD,AV.dl,fieldV,fieldS,AV.cells?,AV.upr,AV.menc,AV.one,D.one,Value.oneCell',tagOf,AV.isApp,strV,strS,bolV,bolS,slcV,AV.isSlD,asrtS,AV.dcells,D.cells?,stcV,stcS,leafOk,eqDs,eqD,packA,D.val?,↓reduceIte,reduceCtorEq,Nat.reduceAdd,Nat.reduceSub,Nat.reduceMul,List.reduceReplicate,Nat.reduceLeDiff,Nat.reduceLT,Nat.reduceBEq,Nat.reduceEqDiff,Int.reduceNeg,Int.reduceEq,Int.reduceLE,Int.reduceLT,tfb,D.flat,D.flats,av_glob,n_seq,ctz8,O8_8,O8_13,O8_15,O8_26,O8_34,O8_44,x8_20,x8_21,x8_23,x8_23_m1,x8_27,x8_27_m1,x8_29]
  by_cases hpre : (p.length : Int) = t.groups.length ∧ (p.all fun x => inB x 0 12) = true
  case neg =>
    have hhi : hiR t p = ([], 2) := by unfold hiR; rw [if_pos ht, if_neg hpre]
    refine PFG_nil (PFG_start (O := O8) Ct8_ok hmix ho8 Tryd.func8 c8 rfl Tryd.ntmps8 Tryd.results8 ?_)
    simp (maxSteps := 4000000) +contextual (disch := first | omega | exact qdb_ok (by kernel_rfl) | exact okb_ok (by kernel_rfl)) only [bw1,bw2,bw3,bw4,bw5,bw6,bw7,bc0,bc1,bc2,bc3,bc4,bc5,bc6,bc7,bb0,setPs,AV.owns,AV.datF,AV.frz,AV.cpy,ifV,isEqB,nilV,nilX,AV.isNilS,AV.isNoRows,wk,dclo,datOf,binIs,addF,AV.isPtr,idxV,AV.isSl,AV.isSlice,AV.rows,ps,pv,extV,extS,AV.outs,AV.outF,packD,AV.dl,fieldV,fieldS,AV.cells?,AV.upr,AV.menc,AV.one,D.one,Value.oneCell',tagOf,AV.isApp,strV,strS,bolV,bolS,slcV,AV.isSlD,asrtS,AV.dcells,D.cells?,stcV,stcS,leafOk,eqDs,eqD,packA,D.val?,↓reduceIte,reduceCtorEq,Nat.reduceAdd,Nat.reduceSub,Nat.reduceMul,List.reduceReplicate,Nat.reduceLeDiff,Nat.reduceLT,Nat.reduceBEq,Nat.reduceEqDiff,Int.reduceNeg,Int.reduceEq,Int.reduceLE,Int.reduceLT,tfb,D.flat,D.flats,av_glob,n_seq,ctz8,O8_8,O8_13,O8_15,O8_26,O8_34,O8_44,x8_20,x8_21,x8_23,x8_23_m1,x8_27,x8_27_m1,x8_29,g1, g2', g3']
    refine call18n (C := Ct8) (i := mk _) (j := mk _) rfl t p 9999 hhi hsp (by decide) rfl rfl rfl ?_
    simp (maxSteps := 4000000) +contextual (disch := first | omega | exact qdb_ok (by kernel_rfl) | exact okb_ok (by kernel_rfl)) only [bw1,bw2,bw3,bw4,bw5,bw6,bw7,bc0,bc1,bc2,bc3,bc4,bc5,bc6,bc7,bb0,setPs,AV.owns,AV.datF,AV.frz,AV.cpy,ifV,isEqB,nilV,nilX,AV.isNilS,AV.isNoRows,wk,dclo,datOf,binIs,addF,AV.isPtr,idxV,AV.isSl,AV.isSlice,AV.rows,ps,pv,extV,extS,AV.outs,AV.outF,packD,AV.dl,fieldV,fieldS,AV.cells?,AV.upr,AV.menc,AV.one,D.one,Value.oneCell',tagOf,AV.isApp,strV,strS,bolV,bolS,slcV,AV.isSlD,asrtS,AV.dcells,D.cells?,stcV,stcS,leafOk,eqDs,eqD,packA,D.val?,↓reduceIte,reduceCtorEq,Nat.reduceAdd,Nat.reduceSub,Nat.reduceMul,List.reduceReplicate,Nat.reduceLeDiff,Nat.reduceLT,Nat.reduceBEq,Nat.reduceEqDiff,Int.reduceNeg,Int.reduceEq,Int.reduceLE,Int.reduceLT,tfb,D.flat,D.flats,av_glob,n_seq,ctz8,O8_8,O8_13,O8_15,O8_26,O8_34,O8_44,x8_20,x8_21,x8_23,x8_23_m1,x8_27,x8_27_m1,x8_29,Sto.frz, AV.frz]
    refine call9x (C := Ct8) (i := mk _) (j := mk _) rfl rfl rfl ?_
    simp (maxSteps := 4000000) +contextual (disch := first | omega | exact qdb_ok (by kernel_rfl) | exact okb_ok (by kernel_rfl)) only [bw1,bw2,bw3,bw4,bw5,bw6,bw7,bc0,bc1,bc2,bc3,bc4,bc5,bc6,bc7,bb0,setPs,AV.owns,AV.datF,AV.frz,AV.cpy,ifV,isEqB,nilV,nilX,AV.isNilS,AV.isNoRows,wk,dclo,datOf,binIs,addF,AV.isPtr,idxV,AV.isSl,AV.isSlice,AV.rows,ps,pv,extV,extS,AV.outs,AV.outF,packD,AV.dl,fieldV,fieldS,AV.cells?,AV.upr,AV.menc,AV.one,D.one,Value.oneCell',tagOf,AV.isApp,strV,strS,bolV,bolS,slcV,AV.isSlD,asrtS,AV.dcells,D.cells?,stcV,stcS,leafOk,eqDs,eqD,packA,D.val?,↓reduceIte,reduceCtorEq,Nat.reduceAdd,Nat.reduceSub,Nat.reduceMul,List.reduceReplicate,Nat.reduceLeDiff,Nat.reduceLT,Nat.reduceBEq,Nat.reduceEqDiff,Int.reduceNeg,Int.reduceEq,Int.reduceLE,Int.reduceLT,tfb,D.flat,D.flats,av_glob,n_seq,ctz8,O8_8,O8_13,O8_15,O8_26,O8_34,O8_44,x8_20,x8_21,x8_23,x8_23_m1,x8_27,x8_27_m1,x8_29]
  obtain ⟨H, hH⟩ : ∃ H, hsN t p (2 ^ t.groups.length) = H := ⟨_, rfl⟩
  obtain ⟨h1, h2, h3, h4, h5⟩ := hi_law ht hpre.1 hpre.2 hH
  have hlp := hpre.1
  have hH5 : H.length ≤ 5 := by
    have hX : 2 ^ t.groups.length ≤ 2 ^ 5 := Nat.pow_le_pow_right (by decide) (tt_hours ht).2.1
    rw [← hH]; exact hs_len _ (by omega)
  have hlb : ((p.length : Int) != (t.groups.length : Int)) = false := by simpa using hlp
  have hbig := tt_hours ht
  obtain ⟨q, hq⟩ : ∃ q, otN t bs t.hours.length = q := ⟨_, rfl⟩
  have hqg : goP t q := by rw [← hq]; exact ot_go
  have hqf := pl_fo hqg.1
  have hqpre : (t.groups.length ≤ 1000 ∧ q.length ≤ q.length ∧ q.length ≤ 1000) ∧ ∀ j, j < q.length → -1 ≤ q.getD j default ∧ q.getD j default < t.groups.length := ⟨⟨by omega, Nat.le_refl _, by omega⟩, hqf.1⟩
  have hql : (t.hours.length : Int) = (q.length : Int) := by omega
  have hb1 : 0 < bs.length := by omega
  refine PFG_nil (PFG_start (O := O8) Ct8_ok hmix ho8 Tryd.func8 c8 rfl Tryd.ntmps8 Tryd.results8 ?_)
  simp (maxSteps := 4000000) +contextual (disch := first | omega | exact qdb_ok (by kernel_rfl) | exact okb_ok (by kernel_rfl)) only [bw1,bw2,bw3,bw4,bw5,bw6,bw7,bc0,bc1,bc2,bc3,bc4,bc5,bc6,bc7,bb0,setPs,AV.owns,AV.datF,AV.frz,AV.cpy,ifV,isEqB,nilV,nilX,AV.isNilS,AV.isNoRows,wk,dclo,datOf,binIs,addF,AV.isPtr,idxV,AV.isSl,AV.isSlice,AV.rows,ps,pv,extV,extS,AV.outs,AV.outF,packD,AV.dl,fieldV,fieldS,AV.cells?,AV.upr,AV.menc,AV.one,D.one,Value.oneCell',tagOf,AV.isApp,strV,strS,bolV,bolS,slcV,AV.isSlD,asrtS,AV.dcells,D.cells?,stcV,stcS,leafOk,eqDs,eqD,packA,D.val?,↓reduceIte,reduceCtorEq,Nat.reduceAdd,Nat.reduceSub,Nat.reduceMul,List.reduceReplicate,Nat.reduceLeDiff,Nat.reduceLT,Nat.reduceBEq,Nat.reduceEqDiff,Int.reduceNeg,Int.reduceEq,Int.reduceLE,Int.reduceLT,tfb,D.flat,D.flats,av_glob,n_seq,ctz8,O8_8,O8_13,O8_15,O8_26,O8_34,O8_44,x8_20,x8_21,x8_23,x8_23_m1,x8_27,x8_27_m1,x8_29,g1, g2', g3']
  refine call18n (C := Ct8) (i := mk _) (j := mk _) rfl t p 9999 h1 hsp (by decide) rfl rfl rfl ?_
  simp (maxSteps := 4000000) +contextual (disch := first | omega | exact qdb_ok (by kernel_rfl) | exact okb_ok (by kernel_rfl)) only [bw1,bw2,bw3,bw4,bw5,bw6,bw7,bc0,bc1,bc2,bc3,bc4,bc5,bc6,bc7,bb0,setPs,AV.owns,AV.datF,AV.frz,AV.cpy,ifV,isEqB,nilV,nilX,AV.isNilS,AV.isNoRows,wk,dclo,datOf,binIs,addF,AV.isPtr,idxV,AV.isSl,AV.isSlice,AV.rows,ps,pv,extV,extS,AV.outs,AV.outF,packD,AV.dl,fieldV,fieldS,AV.cells?,AV.upr,AV.menc,AV.one,D.one,Value.oneCell',tagOf,AV.isApp,strV,strS,bolV,bolS,slcV,AV.isSlD,asrtS,AV.dcells,D.cells?,stcV,stcS,leafOk,eqDs,eqD,packA,D.val?,↓reduceIte,reduceCtorEq,Nat.reduceAdd,Nat.reduceSub,Nat.reduceMul,List.reduceReplicate,Nat.reduceLeDiff,Nat.reduceLT,Nat.reduceBEq,Nat.reduceEqDiff,Int.reduceNeg,Int.reduceEq,Int.reduceLE,Int.reduceLT,tfb,D.flat,D.flats,av_glob,n_seq,ctz8,O8_8,O8_13,O8_15,O8_26,O8_34,O8_44,x8_20,x8_21,x8_23,x8_23_m1,x8_27,x8_27_m1,x8_29,Sto.frz, AV.frz, ht, hszp, hlb, hb1, hbs, hq, hql, hqpre, bne_self_eq_false, eq_self]
  refine ⟨fun _ _ => trivial, fun _ _ => trivial, ?_⟩
  have hcl : (cnL t.groups.length q q.length).length = t.groups.length := cnL_len
  refine loop_xu (O := O8) (tb := 0) Ct8_ok hmix (by kernel_rfl) (σ := Nat) (fun i => [(11, .i i), (10, .b (enL q p H i))]) (fun _ => []) (fun i => i ≤ H.length) (fun i => H.length - i) 0 (Nat.zero_le _) ?_ ?_
  · have he0 : enL q p H 0 = true := rfl
    simp (maxSteps := 4000000) +contextual (disch := first | omega | exact qdb_ok (by kernel_rfl) | exact okb_ok (by kernel_rfl)) only [bw1,bw2,bw3,bw4,bw5,bw6,bw7,bc0,bc1,bc2,bc3,bc4,bc5,bc6,bc7,bb0,setPs,AV.owns,AV.datF,AV.frz,AV.cpy,ifV,isEqB,nilV,nilX,AV.isNilS,AV.isNoRows,wk,dclo,datOf,binIs,addF,AV.isPtr,idxV,AV.isSl,AV.isSlice,AV.rows,ps,pv,extV,extS,AV.outs,AV.outF,packD,AV.dl,fieldV,fieldS,AV.cells?,AV.upr,AV.menc,AV.one,D.one,Value.oneCell',tagOf,AV.isApp,strV,strS,bolV,bolS,slcV,AV.isSlD,asrtS,AV.dcells,D.cells?,stcV,stcS,leafOk,eqDs,eqD,packA,D.val?,↓reduceIte,reduceCtorEq,Nat.reduceAdd,Nat.reduceSub,Nat.reduceMul,List.reduceReplicate,Nat.reduceLeDiff,Nat.reduceLT,Nat.reduceBEq,Nat.reduceEqDiff,Int.reduceNeg,Int.reduceEq,Int.reduceLE,Int.reduceLT,tfb,D.flat,D.flats,av_glob,n_seq,ctz8,O8_8,O8_13,O8_15,O8_26,O8_34,O8_44,x8_20,x8_21,x8_23,x8_23_m1,x8_27,x8_27_m1,x8_29,eq_self, he0]
  intro i hi
  have hii : (0 : Int) ≤ i := by omega
  by_cases hlt : i < H.length
  · have hlt' : (i : Int) < H.length := by omega
    have hHi := h2 i hlt
    obtain ⟨g, hg⟩ : ∃ g : Nat, H.getD i default = (g : Int) := ⟨(H.getD i default).toNat, by omega⟩
    have hgn : g < t.groups.length := by omega
    have hgp : g < p.length := by omega
    have hrH : (H.map ic).getD i [] = ic (g : Int) := by rw [Go.E.row_at hlt, hg]
    have hgp' : (g : Int) < p.length := by omega
    have hgc' : (g : Int) < t.groups.length := by omega
    have hg0 : (0 : Int) ≤ (g : Int) := by omega
    have hgneg : ¬ (g : Int) < 0 := by omega
    have hgge : ¬ (p.length : Int) ≤ (g : Int) := by omega
    have hrp : (p.map ic).getD g [] = ic (p.getD g default) := Go.E.row_at hgp
    have hrc : ((cnL t.groups.length q q.length).map ic).getD g [] = ic (cnG q q.length (g : Int) : Int) := by
      rw [Go.E.row_at (by omega), cnL_at hgn]
    have hen : enL q p H (i + 1) = (enL q p H i && decide (p.getD g default ≤ (cnG q q.length (g : Int) : Int))) := by
      show (enL q p H i && decide (p.getD (H.getD i default).toNat default ≤ (cnG q q.length (H.getD i default) : Int))) = _
      rw [hg, Int.toNat_natCast]
    by_cases hz : i = 0
    · have hz' : ¬ (0 : Int) < (i : Int) := by omega
      by_cases he : enL q p H i = true
      · rw [he, Bool.true_and] at hen
        simp (maxSteps := 4000000) +contextual (disch := first | omega | exact qdb_ok (by kernel_rfl) | exact okb_ok (by kernel_rfl)) only [bw1,bw2,bw3,bw4,bw5,bw6,bw7,bc0,bc1,bc2,bc3,bc4,bc5,bc6,bc7,bb0,setPs,AV.owns,AV.datF,AV.frz,AV.cpy,ifV,isEqB,nilV,nilX,AV.isNilS,AV.isNoRows,wk,dclo,datOf,binIs,addF,AV.isPtr,idxV,AV.isSl,AV.isSlice,AV.rows,ps,pv,extV,extS,AV.outs,AV.outF,packD,AV.dl,fieldV,fieldS,AV.cells?,AV.upr,AV.menc,AV.one,D.one,Value.oneCell',tagOf,AV.isApp,strV,strS,bolV,bolS,slcV,AV.isSlD,asrtS,AV.dcells,D.cells?,stcV,stcS,leafOk,eqDs,eqD,packA,D.val?,↓reduceIte,reduceCtorEq,Nat.reduceAdd,Nat.reduceSub,Nat.reduceMul,List.reduceReplicate,Nat.reduceLeDiff,Nat.reduceLT,Nat.reduceBEq,Nat.reduceEqDiff,Int.reduceNeg,Int.reduceEq,Int.reduceLE,Int.reduceLT,tfb,D.flat,D.flats,av_glob,n_seq,ctz8,O8_8,O8_13,O8_15,O8_26,O8_34,O8_44,x8_20,x8_21,x8_23,x8_23_m1,x8_27,x8_27_m1,x8_29,eq_self, hlt', hii, hrH, hgp', hgc', hg0, hgneg, hgge, hrp, hrc, hz', he, hcl]
        exact ⟨i + 1, ⟨by omega, by omega⟩, by rw [hen], rfl⟩
      · have he' : enL q p H i = false := by simpa using he
        rw [he', Bool.false_and] at hen
        simp (maxSteps := 4000000) +contextual (disch := first | omega | exact qdb_ok (by kernel_rfl) | exact okb_ok (by kernel_rfl)) only [bw1,bw2,bw3,bw4,bw5,bw6,bw7,bc0,bc1,bc2,bc3,bc4,bc5,bc6,bc7,bb0,setPs,AV.owns,AV.datF,AV.frz,AV.cpy,ifV,isEqB,nilV,nilX,AV.isNilS,AV.isNoRows,wk,dclo,datOf,binIs,addF,AV.isPtr,idxV,AV.isSl,AV.isSlice,AV.rows,ps,pv,extV,extS,AV.outs,AV.outF,packD,AV.dl,fieldV,fieldS,AV.cells?,AV.upr,AV.menc,AV.one,D.one,Value.oneCell',tagOf,AV.isApp,strV,strS,bolV,bolS,slcV,AV.isSlD,asrtS,AV.dcells,D.cells?,stcV,stcS,leafOk,eqDs,eqD,packA,D.val?,↓reduceIte,reduceCtorEq,Nat.reduceAdd,Nat.reduceSub,Nat.reduceMul,List.reduceReplicate,Nat.reduceLeDiff,Nat.reduceLT,Nat.reduceBEq,Nat.reduceEqDiff,Int.reduceNeg,Int.reduceEq,Int.reduceLE,Int.reduceLT,tfb,D.flat,D.flats,av_glob,n_seq,ctz8,O8_8,O8_13,O8_15,O8_26,O8_34,O8_44,x8_20,x8_21,x8_23,x8_23_m1,x8_27,x8_27_m1,x8_29,eq_self, hlt', hii, hrH, hgp', hgc', hg0, hgneg, hgge, hrp, hrc, hz', he', hcl]
        exact ⟨i + 1, ⟨by omega, by omega⟩, by rw [hen], rfl⟩
    · have hz' : (0 : Int) < (i : Int) := by omega
      have y1 : ((i : Int) - 1).toNat = i - 1 := by omega
      have y2 : (0 : Int) ≤ (i : Int) - 1 := by omega
      have y3 : (i : Int) - 1 < H.length := by omega
      have hrH2 : (H.map ic).getD (i - 1) [] = ic (H.getD (i - 1) default) := Go.E.row_at (by omega)
      have hle : ¬ (g : Int) ≤ H.getD (i - 1) default := by
        have := hHi.2 (by omega)
        omega
      by_cases he : enL q p H i = true
      · rw [he, Bool.true_and] at hen
        simp (maxSteps := 4000000) +contextual (disch := first | omega | exact qdb_ok (by kernel_rfl) | exact okb_ok (by kernel_rfl)) only [bw1,bw2,bw3,bw4,bw5,bw6,bw7,bc0,bc1,bc2,bc3,bc4,bc5,bc6,bc7,bb0,setPs,AV.owns,AV.datF,AV.frz,AV.cpy,ifV,isEqB,nilV,nilX,AV.isNilS,AV.isNoRows,wk,dclo,datOf,binIs,addF,AV.isPtr,idxV,AV.isSl,AV.isSlice,AV.rows,ps,pv,extV,extS,AV.outs,AV.outF,packD,AV.dl,fieldV,fieldS,AV.cells?,AV.upr,AV.menc,AV.one,D.one,Value.oneCell',tagOf,AV.isApp,strV,strS,bolV,bolS,slcV,AV.isSlD,asrtS,AV.dcells,D.cells?,stcV,stcS,leafOk,eqDs,eqD,packA,D.val?,↓reduceIte,reduceCtorEq,Nat.reduceAdd,Nat.reduceSub,Nat.reduceMul,List.reduceReplicate,Nat.reduceLeDiff,Nat.reduceLT,Nat.reduceBEq,Nat.reduceEqDiff,Int.reduceNeg,Int.reduceEq,Int.reduceLE,Int.reduceLT,tfb,D.flat,D.flats,av_glob,n_seq,ctz8,O8_8,O8_13,O8_15,O8_26,O8_34,O8_44,x8_20,x8_21,x8_23,x8_23_m1,x8_27,x8_27_m1,x8_29,eq_self, hlt', hii, hrH, hgp', hgc', hg0, hgneg, hgge, hrp, hrc, hz', he, hcl, y1, y2, y3, hrH2, hle]
        exact ⟨i + 1, ⟨by omega, by omega⟩, by rw [hen], rfl⟩
      · have he' : enL q p H i = false := by simpa using he
        rw [he', Bool.false_and] at hen
        simp (maxSteps := 4000000) +contextual (disch := first | omega | exact qdb_ok (by kernel_rfl) | exact okb_ok (by kernel_rfl)) only [bw1,bw2,bw3,bw4,bw5,bw6,bw7,bc0,bc1,bc2,bc3,bc4,bc5,bc6,bc7,bb0,setPs,AV.owns,AV.datF,AV.frz,AV.cpy,ifV,isEqB,nilV,nilX,AV.isNilS,AV.isNoRows,wk,dclo,datOf,binIs,addF,AV.isPtr,idxV,AV.isSl,AV.isSlice,AV.rows,ps,pv,extV,extS,AV.outs,AV.outF,packD,AV.dl,fieldV,fieldS,AV.cells?,AV.upr,AV.menc,AV.one,D.one,Value.oneCell',tagOf,AV.isApp,strV,strS,bolV,bolS,slcV,AV.isSlD,asrtS,AV.dcells,D.cells?,stcV,stcS,leafOk,eqDs,eqD,packA,D.val?,↓reduceIte,reduceCtorEq,Nat.reduceAdd,Nat.reduceSub,Nat.reduceMul,List.reduceReplicate,Nat.reduceLeDiff,Nat.reduceLT,Nat.reduceBEq,Nat.reduceEqDiff,Int.reduceNeg,Int.reduceEq,Int.reduceLE,Int.reduceLT,tfb,D.flat,D.flats,av_glob,n_seq,ctz8,O8_8,O8_13,O8_15,O8_26,O8_34,O8_44,x8_20,x8_21,x8_23,x8_23_m1,x8_27,x8_27_m1,x8_29,eq_self, hlt', hii, hrH, hgp', hgc', hg0, hgneg, hgge, hrp, hrc, hz', he', hcl, y1, y2, y3, hrH2, hle]
        exact ⟨i + 1, ⟨by omega, by omega⟩, by rw [hen], rfl⟩
  have hlt' : ¬ (i : Int) < H.length := by omega
  by_cases hH0 : H.length = 0
  case neg =>
    have hHp : (0 : Int) < H.length := by omega
    have hHz : ((H.length : Int) == 0) = false := by rw [beq_eq_false_iff_ne]; omega
    have hen : enL q p H i = false := by
      refine Bool.eq_false_iff.2 fun h => ?_
      obtain ⟨m, m1, m2⟩ := h3 (fun e => hH0 (by rw [e]; rfl)) q hqg
      have := enL_all i h m (by omega)
      omega
    simp (maxSteps := 4000000) +contextual (disch := first | omega | exact qdb_ok (by kernel_rfl) | exact okb_ok (by kernel_rfl)) only [bw1,bw2,bw3,bw4,bw5,bw6,bw7,bc0,bc1,bc2,bc3,bc4,bc5,bc6,bc7,bb0,setPs,AV.owns,AV.datF,AV.frz,AV.cpy,ifV,isEqB,nilV,nilX,AV.isNilS,AV.isNoRows,wk,dclo,datOf,binIs,addF,AV.isPtr,idxV,AV.isSl,AV.isSlice,AV.rows,ps,pv,extV,extS,AV.outs,AV.outF,packD,AV.dl,fieldV,fieldS,AV.cells?,AV.upr,AV.menc,AV.one,D.one,Value.oneCell',tagOf,AV.isApp,strV,strS,bolV,bolS,slcV,AV.isSlD,asrtS,AV.dcells,D.cells?,stcV,stcS,leafOk,eqDs,eqD,packA,D.val?,↓reduceIte,reduceCtorEq,Nat.reduceAdd,Nat.reduceSub,Nat.reduceMul,List.reduceReplicate,Nat.reduceLeDiff,Nat.reduceLT,Nat.reduceBEq,Nat.reduceEqDiff,Int.reduceNeg,Int.reduceEq,Int.reduceLE,Int.reduceLT,tfb,D.flat,D.flats,av_glob,n_seq,ctz8,O8_8,O8_13,O8_15,O8_26,O8_34,O8_44,x8_20,x8_21,x8_23,x8_23_m1,x8_27,x8_27_m1,x8_29,eq_self, hlt', hHp, hen]
    refine loop_xu (O := O8) (tb := 0) Ct8_ok hmix (by kernel_rfl) (σ := Nat) (fun i => [(12, .i i), (13, .any), (14, .any), (15, .any), (16, .any)]) (fun _ => []) (fun i => i ≤ H.length) (fun i => H.length - i) 0 (Nat.zero_le _) ?_ ?_
    · simp (maxSteps := 4000000) +contextual (disch := first | omega | exact qdb_ok (by kernel_rfl) | exact okb_ok (by kernel_rfl)) only [bw1,bw2,bw3,bw4,bw5,bw6,bw7,bc0,bc1,bc2,bc3,bc4,bc5,bc6,bc7,bb0,setPs,AV.owns,AV.datF,AV.frz,AV.cpy,ifV,isEqB,nilV,nilX,AV.isNilS,AV.isNoRows,wk,dclo,datOf,binIs,addF,AV.isPtr,idxV,AV.isSl,AV.isSlice,AV.rows,ps,pv,extV,extS,AV.outs,AV.outF,packD,AV.dl,fieldV,fieldS,AV.cells?,AV.upr,AV.menc,AV.one,D.one,Value.oneCell',tagOf,AV.isApp,strV,strS,bolV,bolS,slcV,AV.isSlD,asrtS,AV.dcells,D.cells?,stcV,stcS,leafOk,eqDs,eqD,packA,D.val?,↓reduceIte,reduceCtorEq,Nat.reduceAdd,Nat.reduceSub,Nat.reduceMul,List.reduceReplicate,Nat.reduceLeDiff,Nat.reduceLT,Nat.reduceBEq,Nat.reduceEqDiff,Int.reduceNeg,Int.reduceEq,Int.reduceLE,Int.reduceLT,tfb,D.flat,D.flats,av_glob,n_seq,ctz8,O8_8,O8_13,O8_15,O8_26,O8_34,O8_44,x8_20,x8_21,x8_23,x8_23_m1,x8_27,x8_27_m1,x8_29,eq_self]
    intro r hr
    have hrr : (0 : Int) ≤ r := by omega
    have hpl0 : (0 : Int) ≤ p.length := by omega
    by_cases hlr : r < H.length
    case neg =>
      have hlr' : ¬ (r : Int) < H.length := by omega
      have hp0 : (0 : Int) < p.length := by
        have := (h2 0 (by omega)).1
        omega
      simp (maxSteps := 4000000) +contextual (disch := first | omega | exact qdb_ok (by kernel_rfl) | exact okb_ok (by kernel_rfl)) only [bw1,bw2,bw3,bw4,bw5,bw6,bw7,bc0,bc1,bc2,bc3,bc4,bc5,bc6,bc7,bb0,setPs,AV.owns,AV.datF,AV.frz,AV.cpy,ifV,isEqB,nilV,nilX,AV.isNilS,AV.isNoRows,wk,dclo,datOf,binIs,addF,AV.isPtr,idxV,AV.isSl,AV.isSlice,AV.rows,ps,pv,extV,extS,AV.outs,AV.outF,packD,AV.dl,fieldV,fieldS,AV.cells?,AV.upr,AV.menc,AV.one,D.one,Value.oneCell',tagOf,AV.isApp,strV,strS,bolV,bolS,slcV,AV.isSlD,asrtS,AV.dcells,D.cells?,stcV,stcS,leafOk,eqDs,eqD,packA,D.val?,↓reduceIte,reduceCtorEq,Nat.reduceAdd,Nat.reduceSub,Nat.reduceMul,List.reduceReplicate,Nat.reduceLeDiff,Nat.reduceLT,Nat.reduceBEq,Nat.reduceEqDiff,Int.reduceNeg,Int.reduceEq,Int.reduceLE,Int.reduceLT,tfb,D.flat,D.flats,av_glob,n_seq,ctz8,O8_8,O8_13,O8_15,O8_26,O8_34,O8_44,x8_20,x8_21,x8_23,x8_23_m1,x8_27,x8_27_m1,x8_29,eq_self, hlr', hHz, hp0]
      refine loop_xu (O := O8) (tb := 0) Ct8_ok hmix (by kernel_rfl) (σ := Nat) (fun r => [(18, .i r), (17, .b false)]) (fun _ => []) (fun r => r ≤ p.length) (fun r => p.length - r) 0 (Nat.zero_le _) ?_ ?_
      · simp (maxSteps := 4000000) +contextual (disch := first | omega | exact qdb_ok (by kernel_rfl) | exact okb_ok (by kernel_rfl)) only [bw1,bw2,bw3,bw4,bw5,bw6,bw7,bc0,bc1,bc2,bc3,bc4,bc5,bc6,bc7,bb0,setPs,AV.owns,AV.datF,AV.frz,AV.cpy,ifV,isEqB,nilV,nilX,AV.isNilS,AV.isNoRows,wk,dclo,datOf,binIs,addF,AV.isPtr,idxV,AV.isSl,AV.isSlice,AV.rows,ps,pv,extV,extS,AV.outs,AV.outF,packD,AV.dl,fieldV,fieldS,AV.cells?,AV.upr,AV.menc,AV.one,D.one,Value.oneCell',tagOf,AV.isApp,strV,strS,bolV,bolS,slcV,AV.isSlD,asrtS,AV.dcells,D.cells?,stcV,stcS,leafOk,eqDs,eqD,packA,D.val?,↓reduceIte,reduceCtorEq,Nat.reduceAdd,Nat.reduceSub,Nat.reduceMul,List.reduceReplicate,Nat.reduceLeDiff,Nat.reduceLT,Nat.reduceBEq,Nat.reduceEqDiff,Int.reduceNeg,Int.reduceEq,Int.reduceLE,Int.reduceLT,tfb,D.flat,D.flats,av_glob,n_seq,ctz8,O8_8,O8_13,O8_15,O8_26,O8_34,O8_44,x8_20,x8_21,x8_23,x8_23_m1,x8_27,x8_27_m1,x8_29,eq_self]
      intro v hv
      by_cases hlv : v < p.length
      · have hlv' : (v : Int) < p.length := by omega
        simp (maxSteps := 4000000) +contextual (disch := first | omega | exact qdb_ok (by kernel_rfl) | exact okb_ok (by kernel_rfl)) only [bw1,bw2,bw3,bw4,bw5,bw6,bw7,bc0,bc1,bc2,bc3,bc4,bc5,bc6,bc7,bb0,setPs,AV.owns,AV.datF,AV.frz,AV.cpy,ifV,isEqB,nilV,nilX,AV.isNilS,AV.isNoRows,wk,dclo,datOf,binIs,addF,AV.isPtr,idxV,AV.isSl,AV.isSlice,AV.rows,ps,pv,extV,extS,AV.outs,AV.outF,packD,AV.dl,fieldV,fieldS,AV.cells?,AV.upr,AV.menc,AV.one,D.one,Value.oneCell',tagOf,AV.isApp,strV,strS,bolV,bolS,slcV,AV.isSlD,asrtS,AV.dcells,D.cells?,stcV,stcS,leafOk,eqDs,eqD,packA,D.val?,↓reduceIte,reduceCtorEq,Nat.reduceAdd,Nat.reduceSub,Nat.reduceMul,List.reduceReplicate,Nat.reduceLeDiff,Nat.reduceLT,Nat.reduceBEq,Nat.reduceEqDiff,Int.reduceNeg,Int.reduceEq,Int.reduceLE,Int.reduceLT,tfb,D.flat,D.flats,av_glob,n_seq,ctz8,O8_8,O8_13,O8_15,O8_26,O8_34,O8_44,x8_20,x8_21,x8_23,x8_23_m1,x8_27,x8_27_m1,x8_29,eq_self, hlv']
        exact ⟨v + 1, ⟨by omega, by omega⟩, rfl⟩
      have hlv' : ¬ (v : Int) < p.length := by omega
      simp (maxSteps := 4000000) +contextual (disch := first | omega | exact qdb_ok (by kernel_rfl) | exact okb_ok (by kernel_rfl)) only [bw1,bw2,bw3,bw4,bw5,bw6,bw7,bc0,bc1,bc2,bc3,bc4,bc5,bc6,bc7,bb0,setPs,AV.owns,AV.datF,AV.frz,AV.cpy,ifV,isEqB,nilV,nilX,AV.isNilS,AV.isNoRows,wk,dclo,datOf,binIs,addF,AV.isPtr,idxV,AV.isSl,AV.isSlice,AV.rows,ps,pv,extV,extS,AV.outs,AV.outF,packD,AV.dl,fieldV,fieldS,AV.cells?,AV.upr,AV.menc,AV.one,D.one,Value.oneCell',tagOf,AV.isApp,strV,strS,bolV,bolS,slcV,AV.isSlD,asrtS,AV.dcells,D.cells?,stcV,stcS,leafOk,eqDs,eqD,packA,D.val?,↓reduceIte,reduceCtorEq,Nat.reduceAdd,Nat.reduceSub,Nat.reduceMul,List.reduceReplicate,Nat.reduceLeDiff,Nat.reduceLT,Nat.reduceBEq,Nat.reduceEqDiff,Int.reduceNeg,Int.reduceEq,Int.reduceLE,Int.reduceLT,tfb,D.flat,D.flats,av_glob,n_seq,ctz8,O8_8,O8_13,O8_15,O8_26,O8_34,O8_44,x8_20,x8_21,x8_23,x8_23_m1,x8_27,x8_27_m1,x8_29,eq_self, hlv']
      refine call9x (C := Ct8) (i := mk _) (j := mk _) rfl rfl rfl ?_
      simp (maxSteps := 4000000) +contextual (disch := first | omega | exact qdb_ok (by kernel_rfl) | exact okb_ok (by kernel_rfl)) only [bw1,bw2,bw3,bw4,bw5,bw6,bw7,bc0,bc1,bc2,bc3,bc4,bc5,bc6,bc7,bb0,setPs,AV.owns,AV.datF,AV.frz,AV.cpy,ifV,isEqB,nilV,nilX,AV.isNilS,AV.isNoRows,wk,dclo,datOf,binIs,addF,AV.isPtr,idxV,AV.isSl,AV.isSlice,AV.rows,ps,pv,extV,extS,AV.outs,AV.outF,packD,AV.dl,fieldV,fieldS,AV.cells?,AV.upr,AV.menc,AV.one,D.one,Value.oneCell',tagOf,AV.isApp,strV,strS,bolV,bolS,slcV,AV.isSlD,asrtS,AV.dcells,D.cells?,stcV,stcS,leafOk,eqDs,eqD,packA,D.val?,↓reduceIte,reduceCtorEq,Nat.reduceAdd,Nat.reduceSub,Nat.reduceMul,List.reduceReplicate,Nat.reduceLeDiff,Nat.reduceLT,Nat.reduceBEq,Nat.reduceEqDiff,Int.reduceNeg,Int.reduceEq,Int.reduceLE,Int.reduceLT,tfb,D.flat,D.flats,av_glob,n_seq,ctz8,O8_8,O8_13,O8_15,O8_26,O8_34,O8_44,x8_20,x8_21,x8_23,x8_23_m1,x8_27,x8_27_m1,x8_29]
    have hlr' : (r : Int) < H.length := by omega
    have hf0 : List.replicate p.length [D.i 0] = (fewN p H r 0).map ic := by
      unfold fewN; rw [List.map_replicate]
    have hm1 : (p.length : Int) * (0 + 1 + 1 + 1 + 1 + 1 + 1 + 1 + 1) ≤ 140737488355328 := by omega
    have hm2 : (p.length : Int) ≤ 4611686018427387904 := by omega
    simp (maxSteps := 4000000) +contextual (disch := first | omega | exact qdb_ok (by kernel_rfl) | exact okb_ok (by kernel_rfl)) only [bw1,bw2,bw3,bw4,bw5,bw6,bw7,bc0,bc1,bc2,bc3,bc4,bc5,bc6,bc7,bb0,setPs,AV.owns,AV.datF,AV.frz,AV.cpy,ifV,isEqB,nilV,nilX,AV.isNilS,AV.isNoRows,wk,dclo,datOf,binIs,addF,AV.isPtr,idxV,AV.isSl,AV.isSlice,AV.rows,ps,pv,extV,extS,AV.outs,AV.outF,packD,AV.dl,fieldV,fieldS,AV.cells?,AV.upr,AV.menc,AV.one,D.one,Value.oneCell',tagOf,AV.isApp,strV,strS,bolV,bolS,slcV,AV.isSlD,asrtS,AV.dcells,D.cells?,stcV,stcS,leafOk,eqDs,eqD,packA,D.val?,↓reduceIte,reduceCtorEq,Nat.reduceAdd,Nat.reduceSub,Nat.reduceMul,List.reduceReplicate,Nat.reduceLeDiff,Nat.reduceLT,Nat.reduceBEq,Nat.reduceEqDiff,Int.reduceNeg,Int.reduceEq,Int.reduceLE,Int.reduceLT,tfb,D.flat,D.flats,av_glob,n_seq,ctz8,O8_8,O8_13,O8_15,O8_26,O8_34,O8_44,x8_20,x8_21,x8_23,x8_23_m1,x8_27,x8_27_m1,x8_29,eq_self, hlr', hpl0, hf0]
    refine ⟨hm1, hm2, ?_⟩
    refine loop_xu (O := O8) (tb := 0) Ct8_ok hmix (by kernel_rfl) (σ := Nat) (fun k => [(13, .own 146 3 1 ((fewN p H r k).map ic)), (14, .i k), (145, .any)]) (fun _ => []) (fun k => k ≤ H.length) (fun k => H.length - k) 0 (Nat.zero_le _) ?_ ?_
    · simp (maxSteps := 4000000) +contextual (disch := first | omega | exact qdb_ok (by kernel_rfl) | exact okb_ok (by kernel_rfl)) only [bw1,bw2,bw3,bw4,bw5,bw6,bw7,bc0,bc1,bc2,bc3,bc4,bc5,bc6,bc7,bb0,setPs,AV.owns,AV.datF,AV.frz,AV.cpy,ifV,isEqB,nilV,nilX,AV.isNilS,AV.isNoRows,wk,dclo,datOf,binIs,addF,AV.isPtr,idxV,AV.isSl,AV.isSlice,AV.rows,ps,pv,extV,extS,AV.outs,AV.outF,packD,AV.dl,fieldV,fieldS,AV.cells?,AV.upr,AV.menc,AV.one,D.one,Value.oneCell',tagOf,AV.isApp,strV,strS,bolV,bolS,slcV,AV.isSlD,asrtS,AV.dcells,D.cells?,stcV,stcS,leafOk,eqDs,eqD,packA,D.val?,↓reduceIte,reduceCtorEq,Nat.reduceAdd,Nat.reduceSub,Nat.reduceMul,List.reduceReplicate,Nat.reduceLeDiff,Nat.reduceLT,Nat.reduceBEq,Nat.reduceEqDiff,Int.reduceNeg,Int.reduceEq,Int.reduceLE,Int.reduceLT,tfb,D.flat,D.flats,av_glob,n_seq,ctz8,O8_8,O8_13,O8_15,O8_26,O8_34,O8_44,x8_20,x8_21,x8_23,x8_23_m1,x8_27,x8_27_m1,x8_29,eq_self, hf0]
    intro k hk
    have hkk : (0 : Int) ≤ k := by omega
    have hfl : (fewN p H r k).length = p.length := few_len k
    by_cases hlk : k < H.length
    · have hlk' : (k : Int) < H.length := by omega
      have hHk := h2 k hlk
      obtain ⟨g, hg⟩ : ∃ g : Nat, H.getD k default = (g : Int) := ⟨(H.getD k default).toNat, by omega⟩
      have hgn : g < t.groups.length := by omega
      have hgp : g < p.length := by omega
      have hrH : (H.map ic).getD k [] = ic (g : Int) := by rw [Go.E.row_at hlk, hg]
      have hgp' : (g : Int) < p.length := by omega
      have hg0 : (0 : Int) ≤ (g : Int) := by omega
      have hrp : (p.map ic).getD g [] = ic (p.getD g default) := Go.E.row_at hgp
      by_cases hkr : k = r
      · have hne : ((k : Int) != (r : Int)) = false := by rw [hkr]; exact bne_self_eq_false _
        have hfe : fewN p H r (k + 1) = fewN p H r k := by
          show (if k = r then fewN p H r k else _) = _
          rw [if_pos hkr]
        simp (maxSteps := 4000000) +contextual (disch := first | omega | exact qdb_ok (by kernel_rfl) | exact okb_ok (by kernel_rfl)) only [bw1,bw2,bw3,bw4,bw5,bw6,bw7,bc0,bc1,bc2,bc3,bc4,bc5,bc6,bc7,bb0,setPs,AV.owns,AV.datF,AV.frz,AV.cpy,ifV,isEqB,nilV,nilX,AV.isNilS,AV.isNoRows,wk,dclo,datOf,binIs,addF,AV.isPtr,idxV,AV.isSl,AV.isSlice,AV.rows,ps,pv,extV,extS,AV.outs,AV.outF,packD,AV.dl,fieldV,fieldS,AV.cells?,AV.upr,AV.menc,AV.one,D.one,Value.oneCell',tagOf,AV.isApp,strV,strS,bolV,bolS,slcV,AV.isSlD,asrtS,AV.dcells,D.cells?,stcV,stcS,leafOk,eqDs,eqD,packA,D.val?,↓reduceIte,reduceCtorEq,Nat.reduceAdd,Nat.reduceSub,Nat.reduceMul,List.reduceReplicate,Nat.reduceLeDiff,Nat.reduceLT,Nat.reduceBEq,Nat.reduceEqDiff,Int.reduceNeg,Int.reduceEq,Int.reduceLE,Int.reduceLT,tfb,D.flat,D.flats,av_glob,n_seq,ctz8,O8_8,O8_13,O8_15,O8_26,O8_34,O8_44,x8_20,x8_21,x8_23,x8_23_m1,x8_27,x8_27_m1,x8_29,eq_self, hlk', hne]
        exact ⟨k + 1, ⟨by omega, by omega⟩, by rw [hfe], rfl⟩
      · have hne : ((k : Int) != (r : Int)) = true := by
          rw [bne_iff_ne]; omega
        have hfe : fewN p H r (k + 1) = (fewN p H r k).set g (p.getD g default) := by
          show (if k = r then fewN p H r k else (fewN p H r k).set (H.getD k default).toNat (p.getD (H.getD k default).toNat default)) = _
          rw [if_neg hkr, hg, Int.toNat_natCast]
        have hst : ((fewN p H r k).map ic).set g (ic (p.getD g default)) = (fewN p H r (k + 1)).map ic := by rw [hfe, List.map_set]
        simp (maxSteps := 4000000) +contextual (disch := first | omega | exact qdb_ok (by kernel_rfl) | exact okb_ok (by kernel_rfl)) only [bw1,bw2,bw3,bw4,bw5,bw6,bw7,bc0,bc1,bc2,bc3,bc4,bc5,bc6,bc7,bb0,setPs,AV.owns,AV.datF,AV.frz,AV.cpy,ifV,isEqB,nilV,nilX,AV.isNilS,AV.isNoRows,wk,dclo,datOf,binIs,addF,AV.isPtr,idxV,AV.isSl,AV.isSlice,AV.rows,ps,pv,extV,extS,AV.outs,AV.outF,packD,AV.dl,fieldV,fieldS,AV.cells?,AV.upr,AV.menc,AV.one,D.one,Value.oneCell',tagOf,AV.isApp,strV,strS,bolV,bolS,slcV,AV.isSlD,asrtS,AV.dcells,D.cells?,stcV,stcS,leafOk,eqDs,eqD,packA,D.val?,↓reduceIte,reduceCtorEq,Nat.reduceAdd,Nat.reduceSub,Nat.reduceMul,List.reduceReplicate,Nat.reduceLeDiff,Nat.reduceLT,Nat.reduceBEq,Nat.reduceEqDiff,Int.reduceNeg,Int.reduceEq,Int.reduceLE,Int.reduceLT,tfb,D.flat,D.flats,av_glob,n_seq,ctz8,O8_8,O8_13,O8_15,O8_26,O8_34,O8_44,x8_20,x8_21,x8_23,x8_23_m1,x8_27,x8_27_m1,x8_29,eq_self, hlk', hne, hkk, hrH, hrp, hg0, hgp', hfl, hst]
        exact ⟨k + 1, ⟨by omega, by omega⟩, rfl, rfl⟩
    have hlk' : ¬ (k : Int) < H.length := by omega
    have hkH : k = H.length := by omega
    have hcf : szT t ∧ (fewN p H r k).length ≤ 1000 := ⟨hsz, by rw [hfl]; omega⟩
    have h4r := h4 r hlr
    rw [← hkH] at h4r
    simp (maxSteps := 4000000) +contextual (disch := first | omega | exact qdb_ok (by kernel_rfl) | exact okb_ok (by kernel_rfl)) only [bw1,bw2,bw3,bw4,bw5,bw6,bw7,bc0,bc1,bc2,bc3,bc4,bc5,bc6,bc7,bb0,setPs,AV.owns,AV.datF,AV.frz,AV.cpy,ifV,isEqB,nilV,nilX,AV.isNilS,AV.isNoRows,wk,dclo,datOf,binIs,addF,AV.isPtr,idxV,AV.isSl,AV.isSlice,AV.rows,ps,pv,extV,extS,AV.outs,AV.outF,packD,AV.dl,fieldV,fieldS,AV.cells?,AV.upr,AV.menc,AV.one,D.one,Value.oneCell',tagOf,AV.isApp,strV,strS,bolV,bolS,slcV,AV.isSlD,asrtS,AV.dcells,D.cells?,stcV,stcS,leafOk,eqDs,eqD,packA,D.val?,↓reduceIte,reduceCtorEq,Nat.reduceAdd,Nat.reduceSub,Nat.reduceMul,List.reduceReplicate,Nat.reduceLeDiff,Nat.reduceLT,Nat.reduceBEq,Nat.reduceEqDiff,Int.reduceNeg,Int.reduceEq,Int.reduceLE,Int.reduceLT,tfb,D.flat,D.flats,av_glob,n_seq,ctz8,O8_8,O8_13,O8_15,O8_26,O8_34,O8_44,x8_20,x8_21,x8_23,x8_23_m1,x8_27,x8_27_m1,x8_29,eq_self, hlk']
    refine call18n (C := Ct8) (i := mk _) (j := mk _) rfl t (fewN p H r k) 146 h4r hcf (by decide) rfl rfl rfl ?_
    simp (maxSteps := 4000000) +contextual (disch := first | omega | exact qdb_ok (by kernel_rfl) | exact okb_ok (by kernel_rfl)) only [bw1,bw2,bw3,bw4,bw5,bw6,bw7,bc0,bc1,bc2,bc3,bc4,bc5,bc6,bc7,bb0,setPs,AV.owns,AV.datF,AV.frz,AV.cpy,ifV,isEqB,nilV,nilX,AV.isNilS,AV.isNoRows,wk,dclo,datOf,binIs,addF,AV.isPtr,idxV,AV.isSl,AV.isSlice,AV.rows,ps,pv,extV,extS,AV.outs,AV.outF,packD,AV.dl,fieldV,fieldS,AV.cells?,AV.upr,AV.menc,AV.one,D.one,Value.oneCell',tagOf,AV.isApp,strV,strS,bolV,bolS,slcV,AV.isSlD,asrtS,AV.dcells,D.cells?,stcV,stcS,leafOk,eqDs,eqD,packA,D.val?,↓reduceIte,reduceCtorEq,Nat.reduceAdd,Nat.reduceSub,Nat.reduceMul,List.reduceReplicate,Nat.reduceLeDiff,Nat.reduceLT,Nat.reduceBEq,Nat.reduceEqDiff,Int.reduceNeg,Int.reduceEq,Int.reduceLE,Int.reduceLT,tfb,D.flat,D.flats,av_glob,n_seq,ctz8,O8_8,O8_13,O8_15,O8_26,O8_34,O8_44,x8_20,x8_21,x8_23,x8_23_m1,x8_27,x8_27_m1,x8_29,Sto.frz, AV.frz, bne_self_eq_false, eq_self]
    exact ⟨r + 1, ⟨by omega, by omega⟩, rfl⟩
  have hHn : ¬ (0 : Int) < H.length := by omega
  have hHz : ((H.length : Int) == 0) = true := by rw [beq_iff_eq]; omega
  simp (maxSteps := 4000000) +contextual (disch := first | omega | exact qdb_ok (by kernel_rfl) | exact okb_ok (by kernel_rfl)) only [bw1,bw2,bw3,bw4,bw5,bw6,bw7,bc0,bc1,bc2,bc3,bc4,bc5,bc6,bc7,bb0,setPs,AV.owns,AV.datF,AV.frz,AV.cpy,ifV,isEqB,nilV,nilX,AV.isNilS,AV.isNoRows,wk,dclo,datOf,binIs,addF,AV.isPtr,idxV,AV.isSl,AV.isSlice,AV.rows,ps,pv,extV,extS,AV.outs,AV.outF,packD,AV.dl,fieldV,fieldS,AV.cells?,AV.upr,AV.menc,AV.one,D.one,Value.oneCell',tagOf,AV.isApp,strV,strS,bolV,bolS,slcV,AV.isSlD,asrtS,AV.dcells,D.cells?,stcV,stcS,leafOk,eqDs,eqD,packA,D.val?,↓reduceIte,reduceCtorEq,Nat.reduceAdd,Nat.reduceSub,Nat.reduceMul,List.reduceReplicate,Nat.reduceLeDiff,Nat.reduceLT,Nat.reduceBEq,Nat.reduceEqDiff,Int.reduceNeg,Int.reduceEq,Int.reduceLE,Int.reduceLT,tfb,D.flat,D.flats,av_glob,n_seq,ctz8,O8_8,O8_13,O8_15,O8_26,O8_34,O8_44,x8_20,x8_21,x8_23,x8_23_m1,x8_27,x8_27_m1,x8_29,eq_self, hlt', hHn]
  refine loop_xu (O := O8) (tb := 0) Ct8_ok hmix (by kernel_rfl) (σ := Unit) (fun _ => []) (fun _ => []) (fun _ => True) (fun _ => 0) () trivial ?_ ?_
  · simp (maxSteps := 4000000) +contextual (disch := first | omega | exact qdb_ok (by kernel_rfl) | exact okb_ok (by kernel_rfl)) only [bw1,bw2,bw3,bw4,bw5,bw6,bw7,bc0,bc1,bc2,bc3,bc4,bc5,bc6,bc7,bb0,setPs,AV.owns,AV.datF,AV.frz,AV.cpy,ifV,isEqB,nilV,nilX,AV.isNilS,AV.isNoRows,wk,dclo,datOf,binIs,addF,AV.isPtr,idxV,AV.isSl,AV.isSlice,AV.rows,ps,pv,extV,extS,AV.outs,AV.outF,packD,AV.dl,fieldV,fieldS,AV.cells?,AV.upr,AV.menc,AV.one,D.one,Value.oneCell',tagOf,AV.isApp,strV,strS,bolV,bolS,slcV,AV.isSlD,asrtS,AV.dcells,D.cells?,stcV,stcS,leafOk,eqDs,eqD,packA,D.val?,↓reduceIte,reduceCtorEq,Nat.reduceAdd,Nat.reduceSub,Nat.reduceMul,List.reduceReplicate,Nat.reduceLeDiff,Nat.reduceLT,Nat.reduceBEq,Nat.reduceEqDiff,Int.reduceNeg,Int.reduceEq,Int.reduceLE,Int.reduceLT,tfb,D.flat,D.flats,av_glob,n_seq,ctz8,O8_8,O8_13,O8_15,O8_26,O8_34,O8_44,x8_20,x8_21,x8_23,x8_23_m1,x8_27,x8_27_m1,x8_29,eq_self]
  intro _ _
  by_cases hp0 : 0 < p.length
  case neg =>
    have hp0' : ¬ (0 : Int) < p.length := by omega
    simp (maxSteps := 4000000) +contextual (disch := first | omega | exact qdb_ok (by kernel_rfl) | exact okb_ok (by kernel_rfl)) only [bw1,bw2,bw3,bw4,bw5,bw6,bw7,bc0,bc1,bc2,bc3,bc4,bc5,bc6,bc7,bb0,setPs,AV.owns,AV.datF,AV.frz,AV.cpy,ifV,isEqB,nilV,nilX,AV.isNilS,AV.isNoRows,wk,dclo,datOf,binIs,addF,AV.isPtr,idxV,AV.isSl,AV.isSlice,AV.rows,ps,pv,extV,extS,AV.outs,AV.outF,packD,AV.dl,fieldV,fieldS,AV.cells?,AV.upr,AV.menc,AV.one,D.one,Value.oneCell',tagOf,AV.isApp,strV,strS,bolV,bolS,slcV,AV.isSlD,asrtS,AV.dcells,D.cells?,stcV,stcS,leafOk,eqDs,eqD,packA,D.val?,↓reduceIte,reduceCtorEq,Nat.reduceAdd,Nat.reduceSub,Nat.reduceMul,List.reduceReplicate,Nat.reduceLeDiff,Nat.reduceLT,Nat.reduceBEq,Nat.reduceEqDiff,Int.reduceNeg,Int.reduceEq,Int.reduceLE,Int.reduceLT,tfb,D.flat,D.flats,av_glob,n_seq,ctz8,O8_8,O8_13,O8_15,O8_26,O8_34,O8_44,x8_20,x8_21,x8_23,x8_23_m1,x8_27,x8_27_m1,x8_29,eq_self, hHn, hHz, hp0']
    refine loop_xu (O := O8) (tb := 0) Ct8_ok hmix (by kernel_rfl) (σ := Nat) (fun r => [(18, .i r), (17, .b false)]) (fun _ => []) (fun r => r ≤ p.length) (fun r => p.length - r) 0 (Nat.zero_le _) ?_ ?_
    · simp (maxSteps := 4000000) +contextual (disch := first | omega | exact qdb_ok (by kernel_rfl) | exact okb_ok (by kernel_rfl)) only [bw1,bw2,bw3,bw4,bw5,bw6,bw7,bc0,bc1,bc2,bc3,bc4,bc5,bc6,bc7,bb0,setPs,AV.owns,AV.datF,AV.frz,AV.cpy,ifV,isEqB,nilV,nilX,AV.isNilS,AV.isNoRows,wk,dclo,datOf,binIs,addF,AV.isPtr,idxV,AV.isSl,AV.isSlice,AV.rows,ps,pv,extV,extS,AV.outs,AV.outF,packD,AV.dl,fieldV,fieldS,AV.cells?,AV.upr,AV.menc,AV.one,D.one,Value.oneCell',tagOf,AV.isApp,strV,strS,bolV,bolS,slcV,AV.isSlD,asrtS,AV.dcells,D.cells?,stcV,stcS,leafOk,eqDs,eqD,packA,D.val?,↓reduceIte,reduceCtorEq,Nat.reduceAdd,Nat.reduceSub,Nat.reduceMul,List.reduceReplicate,Nat.reduceLeDiff,Nat.reduceLT,Nat.reduceBEq,Nat.reduceEqDiff,Int.reduceNeg,Int.reduceEq,Int.reduceLE,Int.reduceLT,tfb,D.flat,D.flats,av_glob,n_seq,ctz8,O8_8,O8_13,O8_15,O8_26,O8_34,O8_44,x8_20,x8_21,x8_23,x8_23_m1,x8_27,x8_27_m1,x8_29,eq_self]
    intro v hv
    by_cases hlv : v < p.length
    · have hlv' : (v : Int) < p.length := by omega
      simp (maxSteps := 4000000) +contextual (disch := first | omega | exact qdb_ok (by kernel_rfl) | exact okb_ok (by kernel_rfl)) only [bw1,bw2,bw3,bw4,bw5,bw6,bw7,bc0,bc1,bc2,bc3,bc4,bc5,bc6,bc7,bb0,setPs,AV.owns,AV.datF,AV.frz,AV.cpy,ifV,isEqB,nilV,nilX,AV.isNilS,AV.isNoRows,wk,dclo,datOf,binIs,addF,AV.isPtr,idxV,AV.isSl,AV.isSlice,AV.rows,ps,pv,extV,extS,AV.outs,AV.outF,packD,AV.dl,fieldV,fieldS,AV.cells?,AV.upr,AV.menc,AV.one,D.one,Value.oneCell',tagOf,AV.isApp,strV,strS,bolV,bolS,slcV,AV.isSlD,asrtS,AV.dcells,D.cells?,stcV,stcS,leafOk,eqDs,eqD,packA,D.val?,↓reduceIte,reduceCtorEq,Nat.reduceAdd,Nat.reduceSub,Nat.reduceMul,List.reduceReplicate,Nat.reduceLeDiff,Nat.reduceLT,Nat.reduceBEq,Nat.reduceEqDiff,Int.reduceNeg,Int.reduceEq,Int.reduceLE,Int.reduceLT,tfb,D.flat,D.flats,av_glob,n_seq,ctz8,O8_8,O8_13,O8_15,O8_26,O8_34,O8_44,x8_20,x8_21,x8_23,x8_23_m1,x8_27,x8_27_m1,x8_29,eq_self, hlv']
      exact ⟨v + 1, ⟨by omega, by omega⟩, rfl⟩
    have hlv' : ¬ (v : Int) < p.length := by omega
    simp (maxSteps := 4000000) +contextual (disch := first | omega | exact qdb_ok (by kernel_rfl) | exact okb_ok (by kernel_rfl)) only [bw1,bw2,bw3,bw4,bw5,bw6,bw7,bc0,bc1,bc2,bc3,bc4,bc5,bc6,bc7,bb0,setPs,AV.owns,AV.datF,AV.frz,AV.cpy,ifV,isEqB,nilV,nilX,AV.isNilS,AV.isNoRows,wk,dclo,datOf,binIs,addF,AV.isPtr,idxV,AV.isSl,AV.isSlice,AV.rows,ps,pv,extV,extS,AV.outs,AV.outF,packD,AV.dl,fieldV,fieldS,AV.cells?,AV.upr,AV.menc,AV.one,D.one,Value.oneCell',tagOf,AV.isApp,strV,strS,bolV,bolS,slcV,AV.isSlD,asrtS,AV.dcells,D.cells?,stcV,stcS,leafOk,eqDs,eqD,packA,D.val?,↓reduceIte,reduceCtorEq,Nat.reduceAdd,Nat.reduceSub,Nat.reduceMul,List.reduceReplicate,Nat.reduceLeDiff,Nat.reduceLT,Nat.reduceBEq,Nat.reduceEqDiff,Int.reduceNeg,Int.reduceEq,Int.reduceLE,Int.reduceLT,tfb,D.flat,D.flats,av_glob,n_seq,ctz8,O8_8,O8_13,O8_15,O8_26,O8_34,O8_44,x8_20,x8_21,x8_23,x8_23_m1,x8_27,x8_27_m1,x8_29,eq_self, hlv']
    refine call9x (C := Ct8) (i := mk _) (j := mk _) rfl rfl rfl ?_
    simp (maxSteps := 4000000) +contextual (disch := first | omega | exact qdb_ok (by kernel_rfl) | exact okb_ok (by kernel_rfl)) only [bw1,bw2,bw3,bw4,bw5,bw6,bw7,bc0,bc1,bc2,bc3,bc4,bc5,bc6,bc7,bb0,setPs,AV.owns,AV.datF,AV.frz,AV.cpy,ifV,isEqB,nilV,nilX,AV.isNilS,AV.isNoRows,wk,dclo,datOf,binIs,addF,AV.isPtr,idxV,AV.isSl,AV.isSlice,AV.rows,ps,pv,extV,extS,AV.outs,AV.outF,packD,AV.dl,fieldV,fieldS,AV.cells?,AV.upr,AV.menc,AV.one,D.one,Value.oneCell',tagOf,AV.isApp,strV,strS,bolV,bolS,slcV,AV.isSlD,asrtS,AV.dcells,D.cells?,stcV,stcS,leafOk,eqDs,eqD,packA,D.val?,↓reduceIte,reduceCtorEq,Nat.reduceAdd,Nat.reduceSub,Nat.reduceMul,List.reduceReplicate,Nat.reduceLeDiff,Nat.reduceLT,Nat.reduceBEq,Nat.reduceEqDiff,Int.reduceNeg,Int.reduceEq,Int.reduceLE,Int.reduceLT,tfb,D.flat,D.flats,av_glob,n_seq,ctz8,O8_8,O8_13,O8_15,O8_26,O8_34,O8_44,x8_20,x8_21,x8_23,x8_23_m1,x8_27,x8_27_m1,x8_29]
  have hp0' : (0 : Int) < p.length := by omega
  simp (maxSteps := 4000000) +contextual (disch := first | omega | exact qdb_ok (by kernel_rfl) | exact okb_ok (by kernel_rfl)) only [bw1,bw2,bw3,bw4,bw5,bw6,bw7,bc0,bc1,bc2,bc3,bc4,bc5,bc6,bc7,bb0,setPs,AV.owns,AV.datF,AV.frz,AV.cpy,ifV,isEqB,nilV,nilX,AV.isNilS,AV.isNoRows,wk,dclo,datOf,binIs,addF,AV.isPtr,idxV,AV.isSl,AV.isSlice,AV.rows,ps,pv,extV,extS,AV.outs,AV.outF,packD,AV.dl,fieldV,fieldS,AV.cells?,AV.upr,AV.menc,AV.one,D.one,Value.oneCell',tagOf,AV.isApp,strV,strS,bolV,bolS,slcV,AV.isSlD,asrtS,AV.dcells,D.cells?,stcV,stcS,leafOk,eqDs,eqD,packA,D.val?,↓reduceIte,reduceCtorEq,Nat.reduceAdd,Nat.reduceSub,Nat.reduceMul,List.reduceReplicate,Nat.reduceLeDiff,Nat.reduceLT,Nat.reduceBEq,Nat.reduceEqDiff,Int.reduceNeg,Int.reduceEq,Int.reduceLE,Int.reduceLT,tfb,D.flat,D.flats,av_glob,n_seq,ctz8,O8_8,O8_13,O8_15,O8_26,O8_34,O8_44,x8_20,x8_21,x8_23,x8_23_m1,x8_27,x8_27_m1,x8_29,eq_self, hHn, hHz, hp0']
  refine loop_xu (O := O8) (tb := 0) Ct8_ok hmix (by kernel_rfl) (σ := Nat) (fun r => [(18, .i r), (17, .b (smN t p r))]) (fun _ => []) (fun r => r ≤ p.length) (fun r => p.length - r) 0 (Nat.zero_le _) ?_ ?_
  · have hs0 : smN t p 0 = true := rfl
    simp (maxSteps := 4000000) +contextual (disch := first | omega | exact qdb_ok (by kernel_rfl) | exact okb_ok (by kernel_rfl)) only [bw1,bw2,bw3,bw4,bw5,bw6,bw7,bc0,bc1,bc2,bc3,bc4,bc5,bc6,bc7,bb0,setPs,AV.owns,AV.datF,AV.frz,AV.cpy,ifV,isEqB,nilV,nilX,AV.isNilS,AV.isNoRows,wk,dclo,datOf,binIs,addF,AV.isPtr,idxV,AV.isSl,AV.isSlice,AV.rows,ps,pv,extV,extS,AV.outs,AV.outF,packD,AV.dl,fieldV,fieldS,AV.cells?,AV.upr,AV.menc,AV.one,D.one,Value.oneCell',tagOf,AV.isApp,strV,strS,bolV,bolS,slcV,AV.isSlD,asrtS,AV.dcells,D.cells?,stcV,stcS,leafOk,eqDs,eqD,packA,D.val?,↓reduceIte,reduceCtorEq,Nat.reduceAdd,Nat.reduceSub,Nat.reduceMul,List.reduceReplicate,Nat.reduceLeDiff,Nat.reduceLT,Nat.reduceBEq,Nat.reduceEqDiff,Int.reduceNeg,Int.reduceEq,Int.reduceLE,Int.reduceLT,tfb,D.flat,D.flats,av_glob,n_seq,ctz8,O8_8,O8_13,O8_15,O8_26,O8_34,O8_44,x8_20,x8_21,x8_23,x8_23_m1,x8_27,x8_27_m1,x8_29,eq_self, hs0]
  intro r hr
  have hrr : (0 : Int) ≤ r := by omega
  by_cases hlr : r < p.length
  · have hlr' : (r : Int) < p.length := by omega
    have hlg' : (r : Int) < t.groups.length := by omega
    have hg0' : (0 : Int) < t.groups.length := by omega
    have hr1 : (p.map ic).getD r [] = ic (p.getD r default) := Go.E.row_at hlr
    have hr2 : (p.map ic).getD (Int.toNat 0) [] = ic (p.getD 0 default) := Go.E.row_at hp0
    have hr3 : (t.groups.map Gr.c).getD r [] = Gr.c (t.groups.getD r default) := Go.E.row_at (by omega)
    have hr4 : (t.groups.map Gr.c).getD (Int.toNat 0) [] = Gr.c (t.groups.getD 0 default) := Go.E.row_at (by omega)
    have hsm : smN t p (r + 1) = (smN t p r && (decide (p.getD r default = p.getD 0 default) && decide ((t.groups.getD r default).cred = (t.groups.getD 0 default).cred))) := rfl
    by_cases c1 : smN t p r = true
    case neg =>
      have c1' : smN t p r = false := by simpa using c1
      rw [c1', Bool.false_and] at hsm
      simp (maxSteps := 4000000) +contextual (disch := first | omega | exact qdb_ok (by kernel_rfl) | exact okb_ok (by kernel_rfl)) only [bw1,bw2,bw3,bw4,bw5,bw6,bw7,bc0,bc1,bc2,bc3,bc4,bc5,bc6,bc7,bb0,setPs,AV.owns,AV.datF,AV.frz,AV.cpy,ifV,isEqB,nilV,nilX,AV.isNilS,AV.isNoRows,wk,dclo,datOf,binIs,addF,AV.isPtr,idxV,AV.isSl,AV.isSlice,AV.rows,ps,pv,extV,extS,AV.outs,AV.outF,packD,AV.dl,fieldV,fieldS,AV.cells?,AV.upr,AV.menc,AV.one,D.one,Value.oneCell',tagOf,AV.isApp,strV,strS,bolV,bolS,slcV,AV.isSlD,asrtS,AV.dcells,D.cells?,stcV,stcS,leafOk,eqDs,eqD,packA,D.val?,↓reduceIte,reduceCtorEq,Nat.reduceAdd,Nat.reduceSub,Nat.reduceMul,List.reduceReplicate,Nat.reduceLeDiff,Nat.reduceLT,Nat.reduceBEq,Nat.reduceEqDiff,Int.reduceNeg,Int.reduceEq,Int.reduceLE,Int.reduceLT,tfb,D.flat,D.flats,av_glob,n_seq,ctz8,O8_8,O8_13,O8_15,O8_26,O8_34,O8_44,x8_20,x8_21,x8_23,x8_23_m1,x8_27,x8_27_m1,x8_29,eq_self, hlr', c1']
      exact ⟨r + 1, ⟨by omega, by omega⟩, by rw [hsm], rfl⟩
    rw [c1, Bool.true_and] at hsm
    by_cases c2 : p.getD r default = p.getD 0 default
    case neg =>
      have c2' : (p.getD r default == p.getD 0 default) = false := by simpa using c2
      rw [decide_eq_false c2, Bool.false_and] at hsm
      simp (maxSteps := 4000000) +contextual (disch := first | omega | exact qdb_ok (by kernel_rfl) | exact okb_ok (by kernel_rfl)) only [bw1,bw2,bw3,bw4,bw5,bw6,bw7,bc0,bc1,bc2,bc3,bc4,bc5,bc6,bc7,bb0,setPs,AV.owns,AV.datF,AV.frz,AV.cpy,ifV,isEqB,nilV,nilX,AV.isNilS,AV.isNoRows,wk,dclo,datOf,binIs,addF,AV.isPtr,idxV,AV.isSl,AV.isSlice,AV.rows,ps,pv,extV,extS,AV.outs,AV.outF,packD,AV.dl,fieldV,fieldS,AV.cells?,AV.upr,AV.menc,AV.one,D.one,Value.oneCell',tagOf,AV.isApp,strV,strS,bolV,bolS,slcV,AV.isSlD,asrtS,AV.dcells,D.cells?,stcV,stcS,leafOk,eqDs,eqD,packA,D.val?,↓reduceIte,reduceCtorEq,Nat.reduceAdd,Nat.reduceSub,Nat.reduceMul,List.reduceReplicate,Nat.reduceLeDiff,Nat.reduceLT,Nat.reduceBEq,Nat.reduceEqDiff,Int.reduceNeg,Int.reduceEq,Int.reduceLE,Int.reduceLT,tfb,D.flat,D.flats,av_glob,n_seq,ctz8,O8_8,O8_13,O8_15,O8_26,O8_34,O8_44,x8_20,x8_21,x8_23,x8_23_m1,x8_27,x8_27_m1,x8_29,eq_self, hlr', c1, c2', hr1, hr2, hp0', hrr]
      exact ⟨r + 1, ⟨by omega, by omega⟩, by rw [hsm], rfl⟩
    have c2' : (p.getD r default == p.getD 0 default) = true := by simpa using c2
    rw [decide_eq_true c2, Bool.true_and] at hsm
    by_cases c3 : (t.groups.getD r default).cred = (t.groups.getD 0 default).cred
    · have c3' : ((t.groups.getD r default).cred == (t.groups.getD 0 default).cred) = true := by simpa using c3
      rw [decide_eq_true c3] at hsm
      simp (maxSteps := 4000000) +contextual (disch := first | omega | exact qdb_ok (by kernel_rfl) | exact okb_ok (by kernel_rfl)) only [bw1,bw2,bw3,bw4,bw5,bw6,bw7,bc0,bc1,bc2,bc3,bc4,bc5,bc6,bc7,bb0,setPs,AV.owns,AV.datF,AV.frz,AV.cpy,ifV,isEqB,nilV,nilX,AV.isNilS,AV.isNoRows,wk,dclo,datOf,binIs,addF,AV.isPtr,idxV,AV.isSl,AV.isSlice,AV.rows,ps,pv,extV,extS,AV.outs,AV.outF,packD,AV.dl,fieldV,fieldS,AV.cells?,AV.upr,AV.menc,AV.one,D.one,Value.oneCell',tagOf,AV.isApp,strV,strS,bolV,bolS,slcV,AV.isSlD,asrtS,AV.dcells,D.cells?,stcV,stcS,leafOk,eqDs,eqD,packA,D.val?,↓reduceIte,reduceCtorEq,Nat.reduceAdd,Nat.reduceSub,Nat.reduceMul,List.reduceReplicate,Nat.reduceLeDiff,Nat.reduceLT,Nat.reduceBEq,Nat.reduceEqDiff,Int.reduceNeg,Int.reduceEq,Int.reduceLE,Int.reduceLT,tfb,D.flat,D.flats,av_glob,n_seq,ctz8,O8_8,O8_13,O8_15,O8_26,O8_34,O8_44,x8_20,x8_21,x8_23,x8_23_m1,x8_27,x8_27_m1,x8_29,eq_self, hlr', c1, c2', c3', hr1, hr2, hr3, hr4, hp0', hrr, hlg', hg0']
      exact ⟨r + 1, ⟨by omega, by omega⟩, by rw [hsm], rfl⟩
    · have c3' : ((t.groups.getD r default).cred == (t.groups.getD 0 default).cred) = false := by simpa using c3
      rw [decide_eq_false c3] at hsm
      simp (maxSteps := 4000000) +contextual (disch := first | omega | exact qdb_ok (by kernel_rfl) | exact okb_ok (by kernel_rfl)) only [bw1,bw2,bw3,bw4,bw5,bw6,bw7,bc0,bc1,bc2,bc3,bc4,bc5,bc6,bc7,bb0,setPs,AV.owns,AV.datF,AV.frz,AV.cpy,ifV,isEqB,nilV,nilX,AV.isNilS,AV.isNoRows,wk,dclo,datOf,binIs,addF,AV.isPtr,idxV,AV.isSl,AV.isSlice,AV.rows,ps,pv,extV,extS,AV.outs,AV.outF,packD,AV.dl,fieldV,fieldS,AV.cells?,AV.upr,AV.menc,AV.one,D.one,Value.oneCell',tagOf,AV.isApp,strV,strS,bolV,bolS,slcV,AV.isSlD,asrtS,AV.dcells,D.cells?,stcV,stcS,leafOk,eqDs,eqD,packA,D.val?,↓reduceIte,reduceCtorEq,Nat.reduceAdd,Nat.reduceSub,Nat.reduceMul,List.reduceReplicate,Nat.reduceLeDiff,Nat.reduceLT,Nat.reduceBEq,Nat.reduceEqDiff,Int.reduceNeg,Int.reduceEq,Int.reduceLE,Int.reduceLT,tfb,D.flat,D.flats,av_glob,n_seq,ctz8,O8_8,O8_13,O8_15,O8_26,O8_34,O8_44,x8_20,x8_21,x8_23,x8_23_m1,x8_27,x8_27_m1,x8_29,eq_self, hlr', c1, c2', c3', hr1, hr2, hr3, hr4, hp0', hrr, hlg', hg0']
      exact ⟨r + 1, ⟨by omega, by omega⟩, by rw [hsm], rfl⟩
  have hlr' : ¬ (r : Int) < p.length := by omega
  by_cases c1 : smN t p r = true
  case neg =>
    have c1' : smN t p r = false := by simpa using c1
    simp (maxSteps := 4000000) +contextual (disch := first | omega | exact qdb_ok (by kernel_rfl) | exact okb_ok (by kernel_rfl)) only [bw1,bw2,bw3,bw4,bw5,bw6,bw7,bc0,bc1,bc2,bc3,bc4,bc5,bc6,bc7,bb0,setPs,AV.owns,AV.datF,AV.frz,AV.cpy,ifV,isEqB,nilV,nilX,AV.isNilS,AV.isNoRows,wk,dclo,datOf,binIs,addF,AV.isPtr,idxV,AV.isSl,AV.isSlice,AV.rows,ps,pv,extV,extS,AV.outs,AV.outF,packD,AV.dl,fieldV,fieldS,AV.cells?,AV.upr,AV.menc,AV.one,D.one,Value.oneCell',tagOf,AV.isApp,strV,strS,bolV,bolS,slcV,AV.isSlD,asrtS,AV.dcells,D.cells?,stcV,stcS,leafOk,eqDs,eqD,packA,D.val?,↓reduceIte,reduceCtorEq,Nat.reduceAdd,Nat.reduceSub,Nat.reduceMul,List.reduceReplicate,Nat.reduceLeDiff,Nat.reduceLT,Nat.reduceBEq,Nat.reduceEqDiff,Int.reduceNeg,Int.reduceEq,Int.reduceLE,Int.reduceLT,tfb,D.flat,D.flats,av_glob,n_seq,ctz8,O8_8,O8_13,O8_15,O8_26,O8_34,O8_44,x8_20,x8_21,x8_23,x8_23_m1,x8_27,x8_27_m1,x8_29,eq_self, hlr', c1']
    refine call9x (C := Ct8) (i := mk _) (j := mk _) rfl rfl rfl ?_
    simp (maxSteps := 4000000) +contextual (disch := first | omega | exact qdb_ok (by kernel_rfl) | exact okb_ok (by kernel_rfl)) only [bw1,bw2,bw3,bw4,bw5,bw6,bw7,bc0,bc1,bc2,bc3,bc4,bc5,bc6,bc7,bb0,setPs,AV.owns,AV.datF,AV.frz,AV.cpy,ifV,isEqB,nilV,nilX,AV.isNilS,AV.isNoRows,wk,dclo,datOf,binIs,addF,AV.isPtr,idxV,AV.isSl,AV.isSlice,AV.rows,ps,pv,extV,extS,AV.outs,AV.outF,packD,AV.dl,fieldV,fieldS,AV.cells?,AV.upr,AV.menc,AV.one,D.one,Value.oneCell',tagOf,AV.isApp,strV,strS,bolV,bolS,slcV,AV.isSlD,asrtS,AV.dcells,D.cells?,stcV,stcS,leafOk,eqDs,eqD,packA,D.val?,↓reduceIte,reduceCtorEq,Nat.reduceAdd,Nat.reduceSub,Nat.reduceMul,List.reduceReplicate,Nat.reduceLeDiff,Nat.reduceLT,Nat.reduceBEq,Nat.reduceEqDiff,Int.reduceNeg,Int.reduceEq,Int.reduceLE,Int.reduceLT,tfb,D.flat,D.flats,av_glob,n_seq,ctz8,O8_8,O8_13,O8_15,O8_26,O8_34,O8_44,x8_20,x8_21,x8_23,x8_23_m1,x8_27,x8_27_m1,x8_29]
  obtain ⟨u, hu, hug, _⟩ := fr_law ht
  have huf := pl_fo hug.1
  have hupl := hug.1
  have hupre : (t.groups.length ≤ 1000 ∧ u.length ≤ u.length ∧ u.length ≤ 1000) ∧ ∀ j, j < u.length → -1 ≤ u.getD j default ∧ u.getD j default < t.groups.length := ⟨⟨by omega, Nat.le_refl _, by omega⟩, huf.1⟩
  have hul : u.length ≤ 1000 := by omega
  have hfair : ∀ g, g < t.groups.length → p.getD 0 default ≤ (cnG u u.length (g : Int) : Int) := fun g hg => by
    obtain ⟨z, z1, z2⟩ := h5 (List.length_eq_zero_iff.1 hH0)
    have hsa := smN_all r c1
    exact hi_fair ht z1 (fun g hg => by rw [← (hsa g (by omega)).1]; exact z2 g hg) (fun g hg => (hsa g (by omega)).2) hu hg
  have hgl : t.groups.length ≤ 1000 := by omega
  simp (maxSteps := 4000000) +contextual (disch := first | omega | exact qdb_ok (by kernel_rfl) | exact okb_ok (by kernel_rfl)) only [bw1,bw2,bw3,bw4,bw5,bw6,bw7,bc0,bc1,bc2,bc3,bc4,bc5,bc6,bc7,bb0,setPs,AV.owns,AV.datF,AV.frz,AV.cpy,ifV,isEqB,nilV,nilX,AV.isNilS,AV.isNoRows,wk,dclo,datOf,binIs,addF,AV.isPtr,idxV,AV.isSl,AV.isSlice,AV.rows,ps,pv,extV,extS,AV.outs,AV.outF,packD,AV.dl,fieldV,fieldS,AV.cells?,AV.upr,AV.menc,AV.one,D.one,Value.oneCell',tagOf,AV.isApp,strV,strS,bolV,bolS,slcV,AV.isSlD,asrtS,AV.dcells,D.cells?,stcV,stcS,leafOk,eqDs,eqD,packA,D.val?,↓reduceIte,reduceCtorEq,Nat.reduceAdd,Nat.reduceSub,Nat.reduceMul,List.reduceReplicate,Nat.reduceLeDiff,Nat.reduceLT,Nat.reduceBEq,Nat.reduceEqDiff,Int.reduceNeg,Int.reduceEq,Int.reduceLE,Int.reduceLT,tfb,D.flat,D.flats,av_glob,n_seq,ctz8,O8_8,O8_13,O8_15,O8_26,O8_34,O8_44,x8_20,x8_21,x8_23,x8_23_m1,x8_27,x8_27_m1,x8_29,eq_self, hlr', c1]
  refine call16x (C := Ct8) (i := mk _) (j := mk _) rfl t hsz rfl ?_
  rw [hu]
  simp (maxSteps := 4000000) +contextual (disch := first | omega | exact qdb_ok (by kernel_rfl) | exact okb_ok (by kernel_rfl)) only [bw1,bw2,bw3,bw4,bw5,bw6,bw7,bc0,bc1,bc2,bc3,bc4,bc5,bc6,bc7,bb0,setPs,AV.owns,AV.datF,AV.frz,AV.cpy,ifV,isEqB,nilV,nilX,AV.isNilS,AV.isNoRows,wk,dclo,datOf,binIs,addF,AV.isPtr,idxV,AV.isSl,AV.isSlice,AV.rows,ps,pv,extV,extS,AV.outs,AV.outF,packD,AV.dl,fieldV,fieldS,AV.cells?,AV.upr,AV.menc,AV.one,D.one,Value.oneCell',tagOf,AV.isApp,strV,strS,bolV,bolS,slcV,AV.isSlD,asrtS,AV.dcells,D.cells?,stcV,stcS,leafOk,eqDs,eqD,packA,D.val?,↓reduceIte,reduceCtorEq,Nat.reduceAdd,Nat.reduceSub,Nat.reduceMul,List.reduceReplicate,Nat.reduceLeDiff,Nat.reduceLT,Nat.reduceBEq,Nat.reduceEqDiff,Int.reduceNeg,Int.reduceEq,Int.reduceLE,Int.reduceLT,tfb,D.flat,D.flats,av_glob,n_seq,ctz8,O8_8,O8_13,O8_15,O8_26,O8_34,O8_44,x8_20,x8_21,x8_23,x8_23_m1,x8_27,x8_27_m1,x8_29,hszp, ht, hupl, hul, hgl, hupre, bne_self_eq_false, eq_self]
  refine ⟨fun _ _ => trivial, ?_⟩
  have hcu : (cnL t.groups.length u u.length).length = t.groups.length := cnL_len
  refine loop_xu (O := O8) (tb := 0) Ct8_ok hmix (by kernel_rfl) (σ := Nat) (fun v => [(22, .i v)]) (fun _ => []) (fun v => v ≤ t.groups.length) (fun v => t.groups.length - v) 0 (Nat.zero_le _) ?_ ?_
  · simp (maxSteps := 4000000) +contextual (disch := first | omega | exact qdb_ok (by kernel_rfl) | exact okb_ok (by kernel_rfl)) only [bw1,bw2,bw3,bw4,bw5,bw6,bw7,bc0,bc1,bc2,bc3,bc4,bc5,bc6,bc7,bb0,setPs,AV.owns,AV.datF,AV.frz,AV.cpy,ifV,isEqB,nilV,nilX,AV.isNilS,AV.isNoRows,wk,dclo,datOf,binIs,addF,AV.isPtr,idxV,AV.isSl,AV.isSlice,AV.rows,ps,pv,extV,extS,AV.outs,AV.outF,packD,AV.dl,fieldV,fieldS,AV.cells?,AV.upr,AV.menc,AV.one,D.one,Value.oneCell',tagOf,AV.isApp,strV,strS,bolV,bolS,slcV,AV.isSlD,asrtS,AV.dcells,D.cells?,stcV,stcS,leafOk,eqDs,eqD,packA,D.val?,↓reduceIte,reduceCtorEq,Nat.reduceAdd,Nat.reduceSub,Nat.reduceMul,List.reduceReplicate,Nat.reduceLeDiff,Nat.reduceLT,Nat.reduceBEq,Nat.reduceEqDiff,Int.reduceNeg,Int.reduceEq,Int.reduceLE,Int.reduceLT,tfb,D.flat,D.flats,av_glob,n_seq,ctz8,O8_8,O8_13,O8_15,O8_26,O8_34,O8_44,x8_20,x8_21,x8_23,x8_23_m1,x8_27,x8_27_m1,x8_29,eq_self]
  intro v hv
  have hvv : (0 : Int) ≤ v := by omega
  by_cases hlv : v < t.groups.length
  · have hlv' : (v : Int) < t.groups.length := by omega
    have hrv : ((cnL t.groups.length u u.length).map ic).getD v [] = ic (cnG u u.length (v : Int) : Int) := by
      rw [Go.E.row_at (by omega), cnL_at hlv]
    have hr2 : (p.map ic).getD (Int.toNat 0) [] = ic (p.getD 0 default) := Go.E.row_at hp0
    have hno : ¬ (cnG u u.length (v : Int) : Int) < p.getD 0 default := by
      have := hfair v hlv
      omega
    simp (maxSteps := 4000000) +contextual (disch := first | omega | exact qdb_ok (by kernel_rfl) | exact okb_ok (by kernel_rfl)) only [bw1,bw2,bw3,bw4,bw5,bw6,bw7,bc0,bc1,bc2,bc3,bc4,bc5,bc6,bc7,bb0,setPs,AV.owns,AV.datF,AV.frz,AV.cpy,ifV,isEqB,nilV,nilX,AV.isNilS,AV.isNoRows,wk,dclo,datOf,binIs,addF,AV.isPtr,idxV,AV.isSl,AV.isSlice,AV.rows,ps,pv,extV,extS,AV.outs,AV.outF,packD,AV.dl,fieldV,fieldS,AV.cells?,AV.upr,AV.menc,AV.one,D.one,Value.oneCell',tagOf,AV.isApp,strV,strS,bolV,bolS,slcV,AV.isSlD,asrtS,AV.dcells,D.cells?,stcV,stcS,leafOk,eqDs,eqD,packA,D.val?,↓reduceIte,reduceCtorEq,Nat.reduceAdd,Nat.reduceSub,Nat.reduceMul,List.reduceReplicate,Nat.reduceLeDiff,Nat.reduceLT,Nat.reduceBEq,Nat.reduceEqDiff,Int.reduceNeg,Int.reduceEq,Int.reduceLE,Int.reduceLT,tfb,D.flat,D.flats,av_glob,n_seq,ctz8,O8_8,O8_13,O8_15,O8_26,O8_34,O8_44,x8_20,x8_21,x8_23,x8_23_m1,x8_27,x8_27_m1,x8_29,eq_self, hlv', hcu, hrv, hr2, hp0', hvv, hno]
    exact ⟨v + 1, ⟨by omega, by omega⟩, rfl⟩
  have hlv' : ¬ (v : Int) < t.groups.length := by omega
  simp (maxSteps := 4000000) +contextual (disch := first | omega | exact qdb_ok (by kernel_rfl) | exact okb_ok (by kernel_rfl)) only [bw1,bw2,bw3,bw4,bw5,bw6,bw7,bc0,bc1,bc2,bc3,bc4,bc5,bc6,bc7,bb0,setPs,AV.owns,AV.datF,AV.frz,AV.cpy,ifV,isEqB,nilV,nilX,AV.isNilS,AV.isNoRows,wk,dclo,datOf,binIs,addF,AV.isPtr,idxV,AV.isSl,AV.isSlice,AV.rows,ps,pv,extV,extS,AV.outs,AV.outF,packD,AV.dl,fieldV,fieldS,AV.cells?,AV.upr,AV.menc,AV.one,D.one,Value.oneCell',tagOf,AV.isApp,strV,strS,bolV,bolS,slcV,AV.isSlD,asrtS,AV.dcells,D.cells?,stcV,stcS,leafOk,eqDs,eqD,packA,D.val?,↓reduceIte,reduceCtorEq,Nat.reduceAdd,Nat.reduceSub,Nat.reduceMul,List.reduceReplicate,Nat.reduceLeDiff,Nat.reduceLT,Nat.reduceBEq,Nat.reduceEqDiff,Int.reduceNeg,Int.reduceEq,Int.reduceLE,Int.reduceLT,tfb,D.flat,D.flats,av_glob,n_seq,ctz8,O8_8,O8_13,O8_15,O8_26,O8_34,O8_44,x8_20,x8_21,x8_23,x8_23_m1,x8_27,x8_27_m1,x8_29,eq_self, hlv', hcu]
  refine call9x (C := Ct8) (i := mk _) (j := mk _) rfl rfl rfl ?_
  simp (maxSteps := 4000000) +contextual (disch := first | omega | exact qdb_ok (by kernel_rfl) | exact okb_ok (by kernel_rfl)) only [bw1,bw2,bw3,bw4,bw5,bw6,bw7,bc0,bc1,bc2,bc3,bc4,bc5,bc6,bc7,bb0,setPs,AV.owns,AV.datF,AV.frz,AV.cpy,ifV,isEqB,nilV,nilX,AV.isNilS,AV.isNoRows,wk,dclo,datOf,binIs,addF,AV.isPtr,idxV,AV.isSl,AV.isSlice,AV.rows,ps,pv,extV,extS,AV.outs,AV.outF,packD,AV.dl,fieldV,fieldS,AV.cells?,AV.upr,AV.menc,AV.one,D.one,Value.oneCell',tagOf,AV.isApp,strV,strS,bolV,bolS,slcV,AV.isSlD,asrtS,AV.dcells,D.cells?,stcV,stcS,leafOk,eqDs,eqD,packA,D.val?,↓reduceIte,reduceCtorEq,Nat.reduceAdd,Nat.reduceSub,Nat.reduceMul,List.reduceReplicate,Nat.reduceLeDiff,Nat.reduceLT,Nat.reduceBEq,Nat.reduceEqDiff,Int.reduceNeg,Int.reduceEq,Int.reduceLE,Int.reduceLT,tfb,D.flat,D.flats,av_glob,n_seq,ctz8,O8_8,O8_13,O8_15,O8_26,O8_34,O8_44,x8_20,x8_21,x8_23,x8_23_m1,x8_27,x8_27_m1,x8_29]
end Go.Proofs.YtofbbkacihnjdaaDoor.M8
