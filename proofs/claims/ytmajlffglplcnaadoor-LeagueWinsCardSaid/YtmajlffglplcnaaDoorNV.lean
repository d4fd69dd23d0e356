/- A part of the proof that the last text ends: what functions of the program do, told by plain data. -/
import Derived.Test.YtmajlffglplcnaaDoorNC
import Derived.Test.YtmajlffglplcnaaDoorNU
import Derived.Test.YtmajlffglplcnaaDoorNJ
set_option linter.unusedVariables false
set_option linter.unusedSimpArgs false
namespace Go.Proofs.YtmajlffglplcnaaDoor
open Go Go.E Go.Maps
set_option maxRecDepth 100000
set_option maxHeartbeats 16000000
def O7 : Nat → Sch := fun id => if id = 9 then .one 0 (.one 1 (.one 2 (.one 3 (.one 4 (.one 5 (.one 6 (.one 7 (.one 8 (.one 9 (.done)))))))))) else if id = 28 then .one 0 (.one 1 (.one 2 (.one 3 (.one 4 (.one 5 (.one 6 (.one 7 (.one 8 (.one 9 (.done)))))))))) else if id = 36 then .one 0 (.one 1 (.one 2 (.one 3 (.one 4 (.one 5 (.one 6 (.one 7 (.one 8 (.one 9 (.one 10 (.one 11 (.one 12 (.one 13 (.one 14 (.one 15 (.one 16 (.one 17 (.one 18 (.one 19 (.one 20 (.one 21 (.one 22 (.one 23 (.one 24 (.one 25 (.one 26 (.one 27 (.one 28 (.one 29 (.one 30 (.one 31 (.one 32 (.one 33 (.one 34 (.one 35 (.one 36 (.one 37 (.one 38 (.one 39 (.one 40 (.one 41 (.one 42 (.one 43 (.done)))))))))))))))))))))))))))))))))))))))))))) else .done
theorem O7_9 : O7 9 = .one 0 (.one 1 (.one 2 (.one 3 (.one 4 (.one 5 (.one 6 (.one 7 (.one 8 (.one 9 (.done)))))))))) := rfl
theorem O7_28 : O7 28 = .one 0 (.one 1 (.one 2 (.one 3 (.one 4 (.one 5 (.one 6 (.one 7 (.one 8 (.one 9 (.done)))))))))) := rfl
theorem O7_36 : O7 36 = .one 0 (.one 1 (.one 2 (.one 3 (.one 4 (.one 5 (.one 6 (.one 7 (.one 8 (.one 9 (.one 10 (.one 11 (.one 12 (.one 13 (.one 14 (.one 15 (.one 16 (.one 17 (.one 18 (.one 19 (.one 20 (.one 21 (.one 22 (.one 23 (.one 24 (.one 25 (.one 26 (.one 27 (.one 28 (.one 29 (.one 30 (.one 31 (.one 32 (.one 33 (.one 34 (.one 35 (.one 36 (.one 37 (.one 38 (.one 39 (.one 40 (.one 41 (.one 42 (.one 43 (.done)))))))))))))))))))))))))))))))))))))))))))) := rfl
theorem ho7 : Tryd.f7.body.map (okO O7) = some true := by kernel_rfl
def Cf7 : Nat → List AV → (AV → List AV → Sto → Prop) → Kt → List AV → Sto → Prop := fun f args K Q e s => match f with
  | 9 => ent9 args K e s
  | 10 => sp10 args K e s
  | 11 => ent11 args K e s
  | 15 => sp15 args K e s
  | 22 => ent22 args K e s
  | 25 => ent25 args K e s
  | _ => False
def Ct7 : CT := { f := Cf7, y := noYld, z := fun d => false }
theorem ctz7 {d : Nat} : CT.z Ct7 d = (false) := id rfl
theorem Ct7_ok : Ct7.ok Tryd.prog := ok_of_f (fun f args K Q e s h => by
  have h : Cf7 f args K Q e s := h
  unfold Cf7 at h; split at h
  · exact ent9_ok h
  · exact sp10_ok h
  · exact ent11_ok h
  · exact sp15_ok h
  · exact ent22_ok h
  · exact ent25_ok h
  · exact h.elim) (fun _ _ _ _ _ _ _ _ _ h => h)
theorem x7_9 {l : Lea} {m : Int} {KK : AV → List AV → Sto → Prop} {QQ : Kt} {ii : At KK} {jj : At QQ} {ee : List AV} {ss : Sto} : xC Ct7 9 [.d (.agg l.c), .d (.i m)] KK QQ ii jj ee ss = (KK (.d (.b (lgB l m))) ee ss) := eq9
theorem x7_11 {l : Lea} {KK : AV → List AV → Sto → Prop} {QQ : Kt} {ii : At KK} {jj : At QQ} {ee : List AV} {ss : Sto} : xC Ct7 11 [.d (.agg l.c)] KK QQ ii jj ee ss = ((l.far.length ≤ 1000) ∧ KK (.d (.tup [.i (lgR l).1, .i (lgR l).2])) ee ss) := eq11
theorem x7_22 {l : Lea} {KK : AV → List AV → Sto → Prop} {QQ : Kt} {ii : At KK} {jj : At QQ} {ee : List AV} {ss : Sto} : xC Ct7 22 [.d (.agg l.c)] KK QQ ii jj ee ss = ((l.far.length ≤ 1000) ∧ KK (.d (.b (leaOk l))) ee ss) := eq22
theorem x7_25 {T : List Std} {t : Int} {KK : AV → List AV → Sto → Prop} {QQ : Kt} {ii : At KK} {jj : At QQ} {ee : List AV} {ss : Sto} : xC Ct7 25 [.d (.sl 5 (T.map Std.c)), .d (.i t)] KK QQ ii jj ee ss = ((T.length ≤ 1000) ∧ KK (.d (.tup [.i (plF T t).1, .agg (plF T t).2.c])) ee ss) := eq25
theorem x7_25_m1 {T : List Std} {t : Int} {g1 el1 : Nat} {KK : AV → List AV → Sto → Prop} {QQ : Kt} {ii : At KK} {jj : At QQ} {ee : List AV} {ss : Sto} : xC Ct7 25 [.own g1 el1 5 (T.map Std.c), .d (.i t)] KK QQ ii jj ee ss = ((T.length ≤ 1000) ∧ (.tup [.i (plF T t).1, .agg (plF T t).2.c] : D).flat = true ∧ KK (.d (.tup [.i (plF T t).1, .agg (plF T t).2.c])) ee ss) := eqo25
theorem c7 : callable Tryd.prog 7 = true := by kernel_rfl
theorem pf7 (l : Lea) (b1 b2 b3 : Int) (hb1 : 0 ≤ b1 ∧ b1 ≤ 255) (hb2 : 0 ≤ b2 ∧ b2 ≤ 255) (hb3 : 0 ≤ b3 ∧ b3 ≤ 255) : PFG Tryd.prog 7 0 gpt [.agg l.c, .v (.int .u8 b1), .v (.int .u8 b2), .v (.int .u8 b3)] (fun zz => zz = .ret (.b true)) := by
  obtain ⟨u, rfl⟩ : ∃ u : Nat, b1 = (u : Int) := ⟨b1.toNat, by omega⟩
  obtain ⟨c, rfl⟩ : ∃ u : Nat, b3 = (u : Int) := ⟨b3.toNat, by omega⟩
  have hx10 : ∀ {args : List AV} {KK : AV → List AV → Sto → Prop} {QQ : Kt} {ii : At KK} {jj : At QQ} {ee : List AV} {ss : Sto}, xC Ct7 10 args KK QQ ii jj ee ss = sp10 args KK ee ss := id rfl
  have hx15 : ∀ {args : List AV} {KK : AV → List AV → Sto → Prop} {QQ : Kt} {ii : At KK} {jj : At QQ} {ee : List AV} {ss : Sto}, xC Ct7 15 args KK QQ ii jj ee ss = sp15 args KK ee ss := id rfl
  refine PFG_nil (PFG_start (O := O7) Ct7_ok hmix ho7 Tryd.func7 c7 rfl Tryd.ntmps7 Tryd.results7 ?_)
  by_cases c0 : lgB l 8 = true
  · simp (maxSteps := 4000000) +contextual (disch := first | omega | exact qdb_ok (by kernel_rfl) | exact okb_ok (by kernel_rfl)) only [bw1,bw2,bw3,bw4,bw5,bw6,bw7,bc0,bc1,bc2,bc3,bc4,bc5,bc6,bc7,bb0,setPs,AV.owns,AV.datF,AV.frz,AV.cpy,ifV,isEqB,nilV,nilX,AV.isNilS,AV.isNoRows,wk,dclo,datOf,binIs,addF,AV.isPtr,idxV,AV.isSl,AV.isSlice,AV.rows,ps,pv,extV,extS,AV.outs,AV.outF,packD,AV.dl,fieldV,fieldS,AV.cells?,AV.upr,AV.menc,AV.one,D.one,Value.oneCell',tagOf,AV.isApp,strV,strS,bolV,bolS,slcV,AV.isSlD,asrtS,AV.dcells,D.cells?,stcV,stcS,leafOk,eqDs,eqD,packA,D.val?,↓reduceIte,reduceCtorEq,Nat.reduceAdd,Nat.reduceSub,Nat.reduceMul,List.reduceReplicate,Nat.reduceLeDiff,Nat.reduceLT,Nat.reduceBEq,Nat.reduceEqDiff,Int.reduceNeg,Int.reduceEq,Int.reduceLE,Int.reduceLT,tfb,D.flat,D.flats,av_glob,n_seq,on_s,ctz7,O7_9,O7_28,O7_36,x7_9,x7_11,x7_22,x7_25,x7_25_m1,c0, hx10]
    refine ⟨rfl, rfl, ?_⟩
    simp (maxSteps := 4000000) +contextual (disch := first | omega | exact qdb_ok (by kernel_rfl) | exact okb_ok (by kernel_rfl)) only [bw1,bw2,bw3,bw4,bw5,bw6,bw7,bc0,bc1,bc2,bc3,bc4,bc5,bc6,bc7,bb0,setPs,AV.owns,AV.datF,AV.frz,AV.cpy,ifV,isEqB,nilV,nilX,AV.isNilS,AV.isNoRows,wk,dclo,datOf,binIs,addF,AV.isPtr,idxV,AV.isSl,AV.isSlice,AV.rows,ps,pv,extV,extS,AV.outs,AV.outF,packD,AV.dl,fieldV,fieldS,AV.cells?,AV.upr,AV.menc,AV.one,D.one,Value.oneCell',tagOf,AV.isApp,strV,strS,bolV,bolS,slcV,AV.isSlD,asrtS,AV.dcells,D.cells?,stcV,stcS,leafOk,eqDs,eqD,packA,D.val?,↓reduceIte,reduceCtorEq,Nat.reduceAdd,Nat.reduceSub,Nat.reduceMul,List.reduceReplicate,Nat.reduceLeDiff,Nat.reduceLT,Nat.reduceBEq,Nat.reduceEqDiff,Int.reduceNeg,Int.reduceEq,Int.reduceLE,Int.reduceLT,tfb,D.flat,D.flats,av_glob,n_seq,on_s,ctz7,O7_9,O7_28,O7_36,x7_9,x7_11,x7_22,x7_25,x7_25_m1,eq_self]
  have c0b : lgB l 8 = false := by simpa using c0
  have hl := lg_no c0
  have hf : l.far.length ≤ 1000 := by omega
  have hf2 : l.games.length ≤ 1000 := by omega
  have hl1 : l.far.length ≤ 1000 ∧ l.games.length ≤ 1000 := ⟨hf, hf2⟩
  by_cases hlea : leaOk l = true
  case neg =>
    have htb : lgR l = (0, 1) := by unfold lgR; rw [if_neg hlea]
    simp (maxSteps := 4000000) +contextual (disch := first | omega | exact qdb_ok (by kernel_rfl) | exact okb_ok (by kernel_rfl)) only [bw1,bw2,bw3,bw4,bw5,bw6,bw7,bc0,bc1,bc2,bc3,bc4,bc5,bc6,bc7,bb0,setPs,AV.owns,AV.datF,AV.frz,AV.cpy,ifV,isEqB,nilV,nilX,AV.isNilS,AV.isNoRows,wk,dclo,datOf,binIs,addF,AV.isPtr,idxV,AV.isSl,AV.isSlice,AV.rows,ps,pv,extV,extS,AV.outs,AV.outF,packD,AV.dl,fieldV,fieldS,AV.cells?,AV.upr,AV.menc,AV.one,D.one,Value.oneCell',tagOf,AV.isApp,strV,strS,bolV,bolS,slcV,AV.isSlD,asrtS,AV.dcells,D.cells?,stcV,stcS,leafOk,eqDs,eqD,packA,D.val?,↓reduceIte,reduceCtorEq,Nat.reduceAdd,Nat.reduceSub,Nat.reduceMul,List.reduceReplicate,Nat.reduceLeDiff,Nat.reduceLT,Nat.reduceBEq,Nat.reduceEqDiff,Int.reduceNeg,Int.reduceEq,Int.reduceLE,Int.reduceLT,tfb,D.flat,D.flats,av_glob,n_seq,on_s,ctz7,O7_9,O7_28,O7_36,x7_9,x7_11,x7_22,x7_25,x7_25_m1,c0b, htb, hx10, hf]
    refine ⟨rfl, rfl, ?_⟩
    simp (maxSteps := 4000000) +contextual (disch := first | omega | exact qdb_ok (by kernel_rfl) | exact okb_ok (by kernel_rfl)) only [bw1,bw2,bw3,bw4,bw5,bw6,bw7,bc0,bc1,bc2,bc3,bc4,bc5,bc6,bc7,bb0,setPs,AV.owns,AV.datF,AV.frz,AV.cpy,ifV,isEqB,nilV,nilX,AV.isNilS,AV.isNoRows,wk,dclo,datOf,binIs,addF,AV.isPtr,idxV,AV.isSl,AV.isSlice,AV.rows,ps,pv,extV,extS,AV.outs,AV.outF,packD,AV.dl,fieldV,fieldS,AV.cells?,AV.upr,AV.menc,AV.one,D.one,Value.oneCell',tagOf,AV.isApp,strV,strS,bolV,bolS,slcV,AV.isSlD,asrtS,AV.dcells,D.cells?,stcV,stcS,leafOk,eqDs,eqD,packA,D.val?,↓reduceIte,reduceCtorEq,Nat.reduceAdd,Nat.reduceSub,Nat.reduceMul,List.reduceReplicate,Nat.reduceLeDiff,Nat.reduceLT,Nat.reduceBEq,Nat.reduceEqDiff,Int.reduceNeg,Int.reduceEq,Int.reduceLE,Int.reduceLT,tfb,D.flat,D.flats,av_glob,n_seq,on_s,ctz7,O7_9,O7_28,O7_36,x7_9,x7_11,x7_22,x7_25,x7_25_m1,eq_self]
  obtain ⟨n, hn1, hn2, hn3, hn4, hn5⟩ := lgR_spec hlea
  have hr1 : ((lgR l).2 == 1) = false := by rw [beq_eq_false_iff_ne]; exact hn4
  have hr2 : (((lgR l).2 == 0) == ((n : Int) == (l.games.length : Int))) = true := by
    by_cases e : n = l.games.length
    · rw [hn3.2 e, e]; simp
    · have h0 : ¬ (lgR l).2 = 0 := fun h => e (hn3.1 h)
      rw [beq_eq_false_iff_ne.2 h0, beq_eq_false_iff_ne.2 (show (n : Int) ≠ (l.games.length : Int) by omega)]; rfl
  have hn0 : ¬ (n : Int) < 0 := by omega
  have hnl : ¬ (l.games.length : Int) < (n : Int) := by omega
  obtain ⟨m, hm⟩ : ∃ m : Nat, m = c % (n + 1) := ⟨_, rfl⟩
  have hmn : m ≤ n := by have := Nat.mod_lt c (show n + 1 > 0 by omega); omega
  have hml : m ≤ l.games.length := by omega
  have hm1 : (c : Int) % ((n : Int) + 1) = m := by rw [hm, Int.natCast_emod]; rfl
  have hm2 : ¬ (n : Int) + 1 = 0 := by omega
  have htk : (l.games.take m).length = m := by rw [List.length_take]; omega
  have hfew := hn5 m hmn
  have z2 : ((0 : Int) != 0) = false := rfl
  have hrm : ((m : Int) != (m : Int)) = false := by simp
  have hx11 : ∀ {KK : AV → List AV → Sto → Prop} {QQ : Kt} {ii : At KK} {jj : At QQ} {ee : List AV} {ss : Sto}, xC Ct7 11 [.d (.agg [.sl 1 (l.far.map pc), .sl 6 ((l.games.take m).map Gam.c)])] KK QQ ii jj ee ss = KK (.d (.tup [.i m, .i 0])) ee ss := by
    intro KK QQ ii jj ee ss
    have h := x7_11 (l := ⟨l.far, l.games.take m⟩) (KK := KK) (QQ := QQ) (ii := ii) (jj := jj) (ee := ee) (ss := ss)
    rw [hfew] at h
    exact h.trans (propext ⟨fun h => h.2, fun h => ⟨hf, h⟩⟩)
  simp (maxSteps := 4000000) +contextual (disch := first | omega | exact qdb_ok (by kernel_rfl) | exact okb_ok (by kernel_rfl)) only [bw1,bw2,bw3,bw4,bw5,bw6,bw7,bc0,bc1,bc2,bc3,bc4,bc5,bc6,bc7,bb0,setPs,AV.owns,AV.datF,AV.frz,AV.cpy,ifV,isEqB,nilV,nilX,AV.isNilS,AV.isNoRows,wk,dclo,datOf,binIs,addF,AV.isPtr,idxV,AV.isSl,AV.isSlice,AV.rows,ps,pv,extV,extS,AV.outs,AV.outF,packD,AV.dl,fieldV,fieldS,AV.cells?,AV.upr,AV.menc,AV.one,D.one,Value.oneCell',tagOf,AV.isApp,strV,strS,bolV,bolS,slcV,AV.isSlD,asrtS,AV.dcells,D.cells?,stcV,stcS,leafOk,eqDs,eqD,packA,D.val?,↓reduceIte,reduceCtorEq,Nat.reduceAdd,Nat.reduceSub,Nat.reduceMul,List.reduceReplicate,Nat.reduceLeDiff,Nat.reduceLT,Nat.reduceBEq,Nat.reduceEqDiff,Int.reduceNeg,Int.reduceEq,Int.reduceLE,Int.reduceLT,tfb,D.flat,D.flats,av_glob,n_seq,on_s,ctz7,O7_9,O7_28,O7_36,x7_9,x7_11,x7_22,x7_25,x7_25_m1,c0b, hx15, hf, hn1, hr1, hr2, hlea, hl1, hn0, hnl, hm1, hm2, hml, htk, Int.toNat_zero, List.drop_zero, ← List.map_take, hx11, hrm, z2]
  refine ⟨⟨by omega, by omega⟩, ?_⟩
  refine loop_xu (O := O7) (tb := 0) Ct7_ok hmix (by kernel_rfl) (σ := Nat) (fun k => [(14, .i (opW l.games u k)), (15, .i k), (16, .any)]) (fun k => []) (fun k => k ≤ l.games.length) (fun k => l.games.length - k) 0 (Nat.zero_le _) ?_ ?_
  · have a1 : opW l.games u 0 = -1 := rfl
    simp (maxSteps := 4000000) +contextual (disch := first | omega | exact qdb_ok (by kernel_rfl) | exact okb_ok (by kernel_rfl)) only [bw1,bw2,bw3,bw4,bw5,bw6,bw7,bc0,bc1,bc2,bc3,bc4,bc5,bc6,bc7,bb0,setPs,AV.owns,AV.datF,AV.frz,AV.cpy,ifV,isEqB,nilV,nilX,AV.isNilS,AV.isNoRows,wk,dclo,datOf,binIs,addF,AV.isPtr,idxV,AV.isSl,AV.isSlice,AV.rows,ps,pv,extV,extS,AV.outs,AV.outF,packD,AV.dl,fieldV,fieldS,AV.cells?,AV.upr,AV.menc,AV.one,D.one,Value.oneCell',tagOf,AV.isApp,strV,strS,bolV,bolS,slcV,AV.isSlD,asrtS,AV.dcells,D.cells?,stcV,stcS,leafOk,eqDs,eqD,packA,D.val?,↓reduceIte,reduceCtorEq,Nat.reduceAdd,Nat.reduceSub,Nat.reduceMul,List.reduceReplicate,Nat.reduceLeDiff,Nat.reduceLT,Nat.reduceBEq,Nat.reduceEqDiff,Int.reduceNeg,Int.reduceEq,Int.reduceLE,Int.reduceLT,tfb,D.flat,D.flats,av_glob,n_seq,on_s,ctz7,O7_9,O7_28,O7_36,x7_9,x7_11,x7_22,x7_25,x7_25_m1,eq_self, a1]
  rintro k hk
  by_cases hlt : k < l.games.length
  · have hlt' : (k : Int) < l.games.length := by omega
    have hlz : ¬ (l.games.length : Int) = 0 := by omega
    obtain ⟨j, hj⟩ : ∃ j : Nat, j = (k + u) % l.games.length := ⟨_, rfl⟩
    have hjl : j < l.games.length := by rw [hj]; exact Nat.mod_lt _ (by omega)
    have hjl' : (j : Int) < l.games.length := by omega
    have hj1 : ((k : Int) + (u : Int)) % (l.games.length : Int) = j := by rw [hj, Int.natCast_emod]; rfl
    have hrw : (l.games.map Gam.c).getD j [] = Gam.c (l.games.getD j default) := Go.E.row_at hjl
    have hos : opW l.games u (k + 1) = if (l.games.getD j default).fin = 0 then (j : Int) else opW l.games u k := by rw [hj]; rfl
    by_cases d0 : (l.games.getD j default).fin = 0
    · have d1 : ((l.games.getD j default).fin == 0) = true := by simpa using d0
      rw [if_pos d0] at hos
      simp (maxSteps := 4000000) +contextual (disch := first | omega | exact qdb_ok (by kernel_rfl) | exact okb_ok (by kernel_rfl)) only [bw1,bw2,bw3,bw4,bw5,bw6,bw7,bc0,bc1,bc2,bc3,bc4,bc5,bc6,bc7,bb0,setPs,AV.owns,AV.datF,AV.frz,AV.cpy,ifV,isEqB,nilV,nilX,AV.isNilS,AV.isNoRows,wk,dclo,datOf,binIs,addF,AV.isPtr,idxV,AV.isSl,AV.isSlice,AV.rows,ps,pv,extV,extS,AV.outs,AV.outF,packD,AV.dl,fieldV,fieldS,AV.cells?,AV.upr,AV.menc,AV.one,D.one,Value.oneCell',tagOf,AV.isApp,strV,strS,bolV,bolS,slcV,AV.isSlD,asrtS,AV.dcells,D.cells?,stcV,stcS,leafOk,eqDs,eqD,packA,D.val?,↓reduceIte,reduceCtorEq,Nat.reduceAdd,Nat.reduceSub,Nat.reduceMul,List.reduceReplicate,Nat.reduceLeDiff,Nat.reduceLT,Nat.reduceBEq,Nat.reduceEqDiff,Int.reduceNeg,Int.reduceEq,Int.reduceLE,Int.reduceLT,tfb,D.flat,D.flats,av_glob,n_seq,on_s,ctz7,O7_9,O7_28,O7_36,x7_9,x7_11,x7_22,x7_25,x7_25_m1,eq_self, hlt', hlz, hj1, hjl', hrw, d1]
      exact ⟨by omega, k + 1, ⟨by omega, by omega⟩, by rw [hos], rfl⟩
    · have d1 : ((l.games.getD j default).fin == 0) = false := by simpa using d0
      rw [if_neg d0] at hos
      simp (maxSteps := 4000000) +contextual (disch := first | omega | exact qdb_ok (by kernel_rfl) | exact okb_ok (by kernel_rfl)) only [bw1,bw2,bw3,bw4,bw5,bw6,bw7,bc0,bc1,bc2,bc3,bc4,bc5,bc6,bc7,bb0,setPs,AV.owns,AV.datF,AV.frz,AV.cpy,ifV,isEqB,nilV,nilX,AV.isNilS,AV.isNoRows,wk,dclo,datOf,binIs,addF,AV.isPtr,idxV,AV.isSl,AV.isSlice,AV.rows,ps,pv,extV,extS,AV.outs,AV.outF,packD,AV.dl,fieldV,fieldS,AV.cells?,AV.upr,AV.menc,AV.one,D.one,Value.oneCell',tagOf,AV.isApp,strV,strS,bolV,bolS,slcV,AV.isSlD,asrtS,AV.dcells,D.cells?,stcV,stcS,leafOk,eqDs,eqD,packA,D.val?,↓reduceIte,reduceCtorEq,Nat.reduceAdd,Nat.reduceSub,Nat.reduceMul,List.reduceReplicate,Nat.reduceLeDiff,Nat.reduceLT,Nat.reduceBEq,Nat.reduceEqDiff,Int.reduceNeg,Int.reduceEq,Int.reduceLE,Int.reduceLT,tfb,D.flat,D.flats,av_glob,n_seq,on_s,ctz7,O7_9,O7_28,O7_36,x7_9,x7_11,x7_22,x7_25,x7_25_m1,eq_self, hlt', hlz, hj1, hjl', hrw, d1]
      exact ⟨by omega, k + 1, ⟨by omega, by omega⟩, by rw [hos], rfl⟩
  obtain rfl : k = l.games.length := by omega
  rcases opW_spec (l := l.games) (w := u) l.games.length (Nat.le_refl _) with ho | ⟨o, ho, hol, ho0⟩
  · simp (maxSteps := 4000000) +contextual (disch := first | omega | exact qdb_ok (by kernel_rfl) | exact okb_ok (by kernel_rfl)) only [bw1,bw2,bw3,bw4,bw5,bw6,bw7,bc0,bc1,bc2,bc3,bc4,bc5,bc6,bc7,bb0,setPs,AV.owns,AV.datF,AV.frz,AV.cpy,ifV,isEqB,nilV,nilX,AV.isNilS,AV.isNoRows,wk,dclo,datOf,binIs,addF,AV.isPtr,idxV,AV.isSl,AV.isSlice,AV.rows,ps,pv,extV,extS,AV.outs,AV.outF,packD,AV.dl,fieldV,fieldS,AV.cells?,AV.upr,AV.menc,AV.one,D.one,Value.oneCell',tagOf,AV.isApp,strV,strS,bolV,bolS,slcV,AV.isSlD,asrtS,AV.dcells,D.cells?,stcV,stcS,leafOk,eqDs,eqD,packA,D.val?,↓reduceIte,reduceCtorEq,Nat.reduceAdd,Nat.reduceSub,Nat.reduceMul,List.reduceReplicate,Nat.reduceLeDiff,Nat.reduceLT,Nat.reduceBEq,Nat.reduceEqDiff,Int.reduceNeg,Int.reduceEq,Int.reduceLE,Int.reduceLT,tfb,D.flat,D.flats,av_glob,n_seq,on_s,ctz7,O7_9,O7_28,O7_36,x7_9,x7_11,x7_22,x7_25,x7_25_m1,eq_self, Int.lt_irrefl, ho, hx10]
    refine ⟨rfl, rfl, ?_⟩
    simp (maxSteps := 4000000) +contextual (disch := first | omega | exact qdb_ok (by kernel_rfl) | exact okb_ok (by kernel_rfl)) only [bw1,bw2,bw3,bw4,bw5,bw6,bw7,bc0,bc1,bc2,bc3,bc4,bc5,bc6,bc7,bb0,setPs,AV.owns,AV.datF,AV.frz,AV.cpy,ifV,isEqB,nilV,nilX,AV.isNilS,AV.isNoRows,wk,dclo,datOf,binIs,addF,AV.isPtr,idxV,AV.isSl,AV.isSlice,AV.rows,ps,pv,extV,extS,AV.outs,AV.outF,packD,AV.dl,fieldV,fieldS,AV.cells?,AV.upr,AV.menc,AV.one,D.one,Value.oneCell',tagOf,AV.isApp,strV,strS,bolV,bolS,slcV,AV.isSlD,asrtS,AV.dcells,D.cells?,stcV,stcS,leafOk,eqDs,eqD,packA,D.val?,↓reduceIte,reduceCtorEq,Nat.reduceAdd,Nat.reduceSub,Nat.reduceMul,List.reduceReplicate,Nat.reduceLeDiff,Nat.reduceLT,Nat.reduceBEq,Nat.reduceEqDiff,Int.reduceNeg,Int.reduceEq,Int.reduceLE,Int.reduceLT,tfb,D.flat,D.flats,av_glob,n_seq,on_s,ctz7,O7_9,O7_28,O7_36,x7_9,x7_11,x7_22,x7_25,x7_25_m1,eq_self]
  have hol' : (o : Int) < l.games.length := by omega
  have hon : ¬ (o : Int) < 0 := by omega
  have hrw : (l.games.map Gam.c).getD o [] = Gam.c (l.games.getD o default) := Go.E.row_at hol
  have hgm := gm_teams (lea_gm hlea hol)
  have h6 := lea_fars hlea
  have h64 := lea_games hlea
  have htb2 : tbR l = (tabR l.games l.far.length, 0) := by unfold tbR; rw [if_pos hlea]
  have hln2 : (tabR l.games l.far.length).length = l.far.length := tbN_len _
  have r0 : ∀ g : Gam, ((l.games.set o g).map Gam.c).getD o [] = Gam.c g := fun g => by
    rw [Go.E.row_at (by rw [List.length_set]; exact hol), at_lt (by rw [List.length_set]; exact hol), List.getElem_set_self]
  have r00 : ∀ g h : Gam, ((l.games.set o g).map Gam.c).set o (Gam.c h) = (l.games.set o h).map Gam.c := fun g h => by
    rw [← List.map_set, List.set_set]
  have r1 : (l.games.map Gam.c).set o [D.i (l.games.getD o default).day, D.i (l.games.getD o default).home, D.i (l.games.getD o default).away, D.v (Value.int IntKind.i64 (1 + b2 % 2)), D.i (l.games.getD o default).hg, D.i (l.games.getD o default).ag] = (l.games.set o (⟨(l.games.getD o default).day, (l.games.getD o default).home, (l.games.getD o default).away, 1 + b2 % 2, (l.games.getD o default).hg, (l.games.getD o default).ag⟩ : Gam)).map Gam.c := by rw [List.map_set]
  have r2 : ((l.games.set o (⟨(l.games.getD o default).day, (l.games.getD o default).home, (l.games.getD o default).away, 1 + b2 % 2, (l.games.getD o default).hg, (l.games.getD o default).ag⟩ : Gam)).map Gam.c).getD o [] = [D.i (l.games.getD o default).day, D.i (l.games.getD o default).home, D.i (l.games.getD o default).away, D.v (Value.int IntKind.i64 (1 + b2 % 2)), D.i (l.games.getD o default).hg, D.i (l.games.getD o default).ag] := r0 _
  have r3 : ((l.games.set o (⟨(l.games.getD o default).day, (l.games.getD o default).home, (l.games.getD o default).away, 1 + b2 % 2, (l.games.getD o default).hg, (l.games.getD o default).ag⟩ : Gam)).map Gam.c).set o [D.i (l.games.getD o default).day, D.i (l.games.getD o default).home, D.i (l.games.getD o default).away, D.v (Value.int IntKind.i64 (1 + b2 % 2)), D.v (Value.int IntKind.i64 (1 + b2 % 9)), D.i (l.games.getD o default).ag] = (l.games.set o (⟨(l.games.getD o default).day, (l.games.getD o default).home, (l.games.getD o default).away, 1 + b2 % 2, 1 + b2 % 9, (l.games.getD o default).ag⟩ : Gam)).map Gam.c := r00 _ (⟨(l.games.getD o default).day, (l.games.getD o default).home, (l.games.getD o default).away, 1 + b2 % 2, 1 + b2 % 9, (l.games.getD o default).ag⟩ : Gam)
  have r4 : ((l.games.set o (⟨(l.games.getD o default).day, (l.games.getD o default).home, (l.games.getD o default).away, 1 + b2 % 2, 1 + b2 % 9, (l.games.getD o default).ag⟩ : Gam)).map Gam.c).getD o [] = [D.i (l.games.getD o default).day, D.i (l.games.getD o default).home, D.i (l.games.getD o default).away, D.v (Value.int IntKind.i64 (1 + b2 % 2)), D.v (Value.int IntKind.i64 (1 + b2 % 9)), D.i (l.games.getD o default).ag] := r0 _
  have r5 : ((l.games.set o (⟨(l.games.getD o default).day, (l.games.getD o default).home, (l.games.getD o default).away, 1 + b2 % 2, 1 + b2 % 9, (l.games.getD o default).ag⟩ : Gam)).map Gam.c).set o [D.i (l.games.getD o default).day, D.i (l.games.getD o default).home, D.i (l.games.getD o default).away, D.v (Value.int IntKind.i64 (1 + b2 % 2)), D.v (Value.int IntKind.i64 (1 + b2 % 9)), D.v (Value.int IntKind.i64 0)] = (winL l o b2).games.map Gam.c := r00 _ (wnG (l.games.getD o default) b2)
  have r6 : ((winL l o b2).games.map Gam.c).getD o [] = [D.i (l.games.getD o default).day, D.i (l.games.getD o default).home, D.i (l.games.getD o default).away, D.v (Value.int IntKind.i64 (1 + b2 % 2)), D.v (Value.int IntKind.i64 (1 + b2 % 9)), D.v (Value.int IntKind.i64 0)] := r0 (wnG (l.games.getD o default) b2)
  simp (maxSteps := 4000000) +contextual (disch := first | omega | exact qdb_ok (by kernel_rfl) | exact okb_ok (by kernel_rfl)) only [bw1,bw2,bw3,bw4,bw5,bw6,bw7,bc0,bc1,bc2,bc3,bc4,bc5,bc6,bc7,bb0,setPs,AV.owns,AV.datF,AV.frz,AV.cpy,ifV,isEqB,nilV,nilX,AV.isNilS,AV.isNoRows,wk,dclo,datOf,binIs,addF,AV.isPtr,idxV,AV.isSl,AV.isSlice,AV.rows,ps,pv,extV,extS,AV.outs,AV.outF,packD,AV.dl,fieldV,fieldS,AV.cells?,AV.upr,AV.menc,AV.one,D.one,Value.oneCell',tagOf,AV.isApp,strV,strS,bolV,bolS,slcV,AV.isSlD,asrtS,AV.dcells,D.cells?,stcV,stcS,leafOk,eqDs,eqD,packA,D.val?,↓reduceIte,reduceCtorEq,Nat.reduceAdd,Nat.reduceSub,Nat.reduceMul,List.reduceReplicate,Nat.reduceLeDiff,Nat.reduceLT,Nat.reduceBEq,Nat.reduceEqDiff,Int.reduceNeg,Int.reduceEq,Int.reduceLE,Int.reduceLT,tfb,D.flat,D.flats,av_glob,n_seq,on_s,ctz7,O7_9,O7_28,O7_36,x7_9,x7_11,x7_22,x7_25,x7_25_m1,eq_self, Int.lt_irrefl, ho, hon, hol', hrw, z2]
  refine ⟨by omega, by omega, by omega, hx15.mpr ⟨l, hf, rfl, rfl, ?_⟩⟩
  simp (maxSteps := 4000000) +contextual (disch := first | omega | exact qdb_ok (by kernel_rfl) | exact okb_ok (by kernel_rfl)) only [bw1,bw2,bw3,bw4,bw5,bw6,bw7,bc0,bc1,bc2,bc3,bc4,bc5,bc6,bc7,bb0,setPs,AV.owns,AV.datF,AV.frz,AV.cpy,ifV,isEqB,nilV,nilX,AV.isNilS,AV.isNoRows,wk,dclo,datOf,binIs,addF,AV.isPtr,idxV,AV.isSl,AV.isSlice,AV.rows,ps,pv,extV,extS,AV.outs,AV.outF,packD,AV.dl,fieldV,fieldS,AV.cells?,AV.upr,AV.menc,AV.one,D.one,Value.oneCell',tagOf,AV.isApp,strV,strS,bolV,bolS,slcV,AV.isSlD,asrtS,AV.dcells,D.cells?,stcV,stcS,leafOk,eqDs,eqD,packA,D.val?,↓reduceIte,reduceCtorEq,Nat.reduceAdd,Nat.reduceSub,Nat.reduceMul,List.reduceReplicate,Nat.reduceLeDiff,Nat.reduceLT,Nat.reduceBEq,Nat.reduceEqDiff,Int.reduceNeg,Int.reduceEq,Int.reduceLE,Int.reduceLT,tfb,D.flat,D.flats,av_glob,n_seq,on_s,ctz7,O7_9,O7_28,O7_36,x7_9,x7_11,x7_22,x7_25,x7_25_m1,htb2, hol', ho0, r1, r2, r3, r4, r5, r6]
  have htb3 : tbR (winL l o b2) = (tabR (winL l o b2).games l.far.length, 0) := by unfold tbR; rw [if_pos (win_ok hlea hol b2)]; rfl
  have hln3 : (tabR (winL l o b2).games l.far.length).length = l.far.length := tbN_len _
  refine hx15.mpr ⟨winL l o b2, hf, rfl, rfl, ?_⟩
  have hw := win_ok hlea hol b2
  have pa : ∀ {t : Int}, 0 ≤ t → t < l.far.length → plF (tabR l.games l.far.length) t = ((rk l.games l.far.length t : Int) + 1, stF l.games t) := fun {t} h1 h2 => by
    obtain ⟨z, rfl⟩ : ∃ z : Nat, t = (z : Int) := ⟨t.toNat, by omega⟩
    exact place_at hlea (t := z) (by omega)
  have pb : ∀ {t : Int}, 0 ≤ t → t < l.far.length → plF (tabR (winL l o b2).games l.far.length) t = ((rk (winL l o b2).games l.far.length t : Int) + 1, stF (winL l o b2).games t) := fun {t} h1 h2 => by
    obtain ⟨z, rfl⟩ : ∃ z : Nat, t = (z : Int) := ⟨t.toNat, by omega⟩
    exact place_at hw (t := z) (by show z < l.far.length; omega)
  have paH := pa (t := (l.games.getD o default).home) (by omega) (by omega)
  have pbH := pb (t := (l.games.getD o default).home) (by omega) (by omega)
  have pbA := pb (t := (l.games.getD o default).away) (by omega) (by omega)
  have q1 : ((rk l.games l.far.length (l.games.getD o default).home : Int) + 1 == 0) = false := by rw [beq_eq_false_iff_ne]; omega
  have q2 : ((rk (winL l o b2).games l.far.length (l.games.getD o default).home : Int) + 1 == 0) = false := by rw [beq_eq_false_iff_ne]; omega
  have hwh := win_home hlea hol ho0 b2
  have w1 := hwh.1
  have w2 := hwh.2.1
  have w3 := hwh.2.2
  have w4 : ¬ (stF (winL l o b2).games (l.games.getD o default).away).games < 1 := by have := win_away hlea hol ho0 b2; omega
  have hb0 := stF_b (t := (l.games.getD o default).home) (lea_gs hlea)
  unfold StB at hb0
  simp (maxSteps := 4000000) +contextual (disch := first | omega | exact qdb_ok (by kernel_rfl) | exact okb_ok (by kernel_rfl)) only [bw1,bw2,bw3,bw4,bw5,bw6,bw7,bc0,bc1,bc2,bc3,bc4,bc5,bc6,bc7,bb0,setPs,AV.owns,AV.datF,AV.frz,AV.cpy,ifV,isEqB,nilV,nilX,AV.isNilS,AV.isNoRows,wk,dclo,datOf,binIs,addF,AV.isPtr,idxV,AV.isSl,AV.isSlice,AV.rows,ps,pv,extV,extS,AV.outs,AV.outF,packD,AV.dl,fieldV,fieldS,AV.cells?,AV.upr,AV.menc,AV.one,D.one,Value.oneCell',tagOf,AV.isApp,strV,strS,bolV,bolS,slcV,AV.isSlD,asrtS,AV.dcells,D.cells?,stcV,stcS,leafOk,eqDs,eqD,packA,D.val?,↓reduceIte,reduceCtorEq,Nat.reduceAdd,Nat.reduceSub,Nat.reduceMul,List.reduceReplicate,Nat.reduceLeDiff,Nat.reduceLT,Nat.reduceBEq,Nat.reduceEqDiff,Int.reduceNeg,Int.reduceEq,Int.reduceLE,Int.reduceLT,tfb,D.flat,D.flats,av_glob,n_seq,on_s,ctz7,O7_9,O7_28,O7_36,x7_9,x7_11,x7_22,x7_25,x7_25_m1,htb3, hln2, hln3, hf, z2, paH, pbH, pbA, q1, q2, w1, w2, w3, w4, r6, bne_self_eq_false]
  refine loop_xu (O := O7) (tb := 0) Ct7_ok hmix (by kernel_rfl) (σ := Nat) (fun k => [(31, .i k), (32, .any), (33, .any), (34, .any), (35, .any)]) (fun k => []) (fun k => k ≤ l.far.length) (fun k => l.far.length - k) 0 (Nat.zero_le _) ?_ ?_
  · simp (maxSteps := 4000000) +contextual (disch := first | omega | exact qdb_ok (by kernel_rfl) | exact okb_ok (by kernel_rfl)) only [bw1,bw2,bw3,bw4,bw5,bw6,bw7,bc0,bc1,bc2,bc3,bc4,bc5,bc6,bc7,bb0,setPs,AV.owns,AV.datF,AV.frz,AV.cpy,ifV,isEqB,nilV,nilX,AV.isNilS,AV.isNoRows,wk,dclo,datOf,binIs,addF,AV.isPtr,idxV,AV.isSl,AV.isSlice,AV.rows,ps,pv,extV,extS,AV.outs,AV.outF,packD,AV.dl,fieldV,fieldS,AV.cells?,AV.upr,AV.menc,AV.one,D.one,Value.oneCell',tagOf,AV.isApp,strV,strS,bolV,bolS,slcV,AV.isSlD,asrtS,AV.dcells,D.cells?,stcV,stcS,leafOk,eqDs,eqD,packA,D.val?,↓reduceIte,reduceCtorEq,Nat.reduceAdd,Nat.reduceSub,Nat.reduceMul,List.reduceReplicate,Nat.reduceLeDiff,Nat.reduceLT,Nat.reduceBEq,Nat.reduceEqDiff,Int.reduceNeg,Int.reduceEq,Int.reduceLE,Int.reduceLT,tfb,D.flat,D.flats,av_glob,n_seq,on_s,ctz7,O7_9,O7_28,O7_36,x7_9,x7_11,x7_22,x7_25,x7_25_m1,eq_self]
  rintro k hk
  by_cases hlt : k < l.far.length
  · have hlt' : (k : Int) < l.far.length := by omega
    by_cases e1 : (k : Int) = (l.games.getD o default).home
    · have e1b : ((k : Int) == (l.games.getD o default).home) = true := by simpa using e1
      simp (maxSteps := 4000000) +contextual (disch := first | omega | exact qdb_ok (by kernel_rfl) | exact okb_ok (by kernel_rfl)) only [bw1,bw2,bw3,bw4,bw5,bw6,bw7,bc0,bc1,bc2,bc3,bc4,bc5,bc6,bc7,bb0,setPs,AV.owns,AV.datF,AV.frz,AV.cpy,ifV,isEqB,nilV,nilX,AV.isNilS,AV.isNoRows,wk,dclo,datOf,binIs,addF,AV.isPtr,idxV,AV.isSl,AV.isSlice,AV.rows,ps,pv,extV,extS,AV.outs,AV.outF,packD,AV.dl,fieldV,fieldS,AV.cells?,AV.upr,AV.menc,AV.one,D.one,Value.oneCell',tagOf,AV.isApp,strV,strS,bolV,bolS,slcV,AV.isSlD,asrtS,AV.dcells,D.cells?,stcV,stcS,leafOk,eqDs,eqD,packA,D.val?,↓reduceIte,reduceCtorEq,Nat.reduceAdd,Nat.reduceSub,Nat.reduceMul,List.reduceReplicate,Nat.reduceLeDiff,Nat.reduceLT,Nat.reduceBEq,Nat.reduceEqDiff,Int.reduceNeg,Int.reduceEq,Int.reduceLE,Int.reduceLT,tfb,D.flat,D.flats,av_glob,n_seq,on_s,ctz7,O7_9,O7_28,O7_36,x7_9,x7_11,x7_22,x7_25,x7_25_m1,eq_self, hlt', hln2, e1b]
      exact ⟨k + 1, ⟨by omega, by omega⟩, rfl⟩
    have e1b : ((k : Int) == (l.games.getD o default).home) = false := by simpa using e1
    by_cases e2 : (k : Int) = (l.games.getD o default).away
    · have e2b : ((k : Int) == (l.games.getD o default).away) = true := by simpa using e2
      simp (maxSteps := 4000000) +contextual (disch := first | omega | exact qdb_ok (by kernel_rfl) | exact okb_ok (by kernel_rfl)) only [bw1,bw2,bw3,bw4,bw5,bw6,bw7,bc0,bc1,bc2,bc3,bc4,bc5,bc6,bc7,bb0,setPs,AV.owns,AV.datF,AV.frz,AV.cpy,ifV,isEqB,nilV,nilX,AV.isNilS,AV.isNoRows,wk,dclo,datOf,binIs,addF,AV.isPtr,idxV,AV.isSl,AV.isSlice,AV.rows,ps,pv,extV,extS,AV.outs,AV.outF,packD,AV.dl,fieldV,fieldS,AV.cells?,AV.upr,AV.menc,AV.one,D.one,Value.oneCell',tagOf,AV.isApp,strV,strS,bolV,bolS,slcV,AV.isSlD,asrtS,AV.dcells,D.cells?,stcV,stcS,leafOk,eqDs,eqD,packA,D.val?,↓reduceIte,reduceCtorEq,Nat.reduceAdd,Nat.reduceSub,Nat.reduceMul,List.reduceReplicate,Nat.reduceLeDiff,Nat.reduceLT,Nat.reduceBEq,Nat.reduceEqDiff,Int.reduceNeg,Int.reduceEq,Int.reduceLE,Int.reduceLT,tfb,D.flat,D.flats,av_glob,n_seq,on_s,ctz7,O7_9,O7_28,O7_36,x7_9,x7_11,x7_22,x7_25,x7_25_m1,eq_self, hlt', hln2, e1b, e2b]
      exact ⟨k + 1, ⟨by omega, by omega⟩, rfl⟩
    have e2b : ((k : Int) == (l.games.getD o default).away) = false := by simpa using e2
    have pak := pa (t := (k : Int)) (by omega) hlt'
    have pbk := pb (t := (k : Int)) (by omega) hlt'
    by_cases d : rk l.games l.far.length (l.games.getD o default).home < rk l.games l.far.length k
    · have d2 := win_rk hlea hol ho0 b2 hlt (fun h => e1 h.symm) (fun h => e2 h.symm) d
      have d' : (rk l.games l.far.length (l.games.getD o default).home : Int) + 1 < (rk l.games l.far.length k : Int) + 1 := by omega
      have d2' : ¬ (rk (winL l o b2).games l.far.length k : Int) + 1 < (rk (winL l o b2).games l.far.length (l.games.getD o default).home : Int) + 1 := by omega
      simp (maxSteps := 4000000) +contextual (disch := first | omega | exact qdb_ok (by kernel_rfl) | exact okb_ok (by kernel_rfl)) only [bw1,bw2,bw3,bw4,bw5,bw6,bw7,bc0,bc1,bc2,bc3,bc4,bc5,bc6,bc7,bb0,setPs,AV.owns,AV.datF,AV.frz,AV.cpy,ifV,isEqB,nilV,nilX,AV.isNilS,AV.isNoRows,wk,dclo,datOf,binIs,addF,AV.isPtr,idxV,AV.isSl,AV.isSlice,AV.rows,ps,pv,extV,extS,AV.outs,AV.outF,packD,AV.dl,fieldV,fieldS,AV.cells?,AV.upr,AV.menc,AV.one,D.one,Value.oneCell',tagOf,AV.isApp,strV,strS,bolV,bolS,slcV,AV.isSlD,asrtS,AV.dcells,D.cells?,stcV,stcS,leafOk,eqDs,eqD,packA,D.val?,↓reduceIte,reduceCtorEq,Nat.reduceAdd,Nat.reduceSub,Nat.reduceMul,List.reduceReplicate,Nat.reduceLeDiff,Nat.reduceLT,Nat.reduceBEq,Nat.reduceEqDiff,Int.reduceNeg,Int.reduceEq,Int.reduceLE,Int.reduceLT,tfb,D.flat,D.flats,av_glob,n_seq,on_s,ctz7,O7_9,O7_28,O7_36,x7_9,x7_11,x7_22,x7_25,x7_25_m1,eq_self, hlt', hln2, hln3, hf, e1b, e2b, pak, pbk, d', d2']
      exact ⟨k + 1, ⟨by omega, by omega⟩, rfl⟩
    · have d' : ¬ (rk l.games l.far.length (l.games.getD o default).home : Int) + 1 < (rk l.games l.far.length k : Int) + 1 := by omega
      simp (maxSteps := 4000000) +contextual (disch := first | omega | exact qdb_ok (by kernel_rfl) | exact okb_ok (by kernel_rfl)) only [bw1,bw2,bw3,bw4,bw5,bw6,bw7,bc0,bc1,bc2,bc3,bc4,bc5,bc6,bc7,bb0,setPs,AV.owns,AV.datF,AV.frz,AV.cpy,ifV,isEqB,nilV,nilX,AV.isNilS,AV.isNoRows,wk,dclo,datOf,binIs,addF,AV.isPtr,idxV,AV.isSl,AV.isSlice,AV.rows,ps,pv,extV,extS,AV.outs,AV.outF,packD,AV.dl,fieldV,fieldS,AV.cells?,AV.upr,AV.menc,AV.one,D.one,Value.oneCell',tagOf,AV.isApp,strV,strS,bolV,bolS,slcV,AV.isSlD,asrtS,AV.dcells,D.cells?,stcV,stcS,leafOk,eqDs,eqD,packA,D.val?,↓reduceIte,reduceCtorEq,Nat.reduceAdd,Nat.reduceSub,Nat.reduceMul,List.reduceReplicate,Nat.reduceLeDiff,Nat.reduceLT,Nat.reduceBEq,Nat.reduceEqDiff,Int.reduceNeg,Int.reduceEq,Int.reduceLE,Int.reduceLT,tfb,D.flat,D.flats,av_glob,n_seq,on_s,ctz7,O7_9,O7_28,O7_36,x7_9,x7_11,x7_22,x7_25,x7_25_m1,eq_self, hlt', hln2, hln3, hf, e1b, e2b, pak, pbk, d']
      exact ⟨k + 1, ⟨by omega, by omega⟩, rfl⟩
  obtain rfl : k = l.far.length := by omega
  simp (maxSteps := 4000000) +contextual (disch := first | omega | exact qdb_ok (by kernel_rfl) | exact okb_ok (by kernel_rfl)) only [bw1,bw2,bw3,bw4,bw5,bw6,bw7,bc0,bc1,bc2,bc3,bc4,bc5,bc6,bc7,bb0,setPs,AV.owns,AV.datF,AV.frz,AV.cpy,ifV,isEqB,nilV,nilX,AV.isNilS,AV.isNoRows,wk,dclo,datOf,binIs,addF,AV.isPtr,idxV,AV.isSl,AV.isSlice,AV.rows,ps,pv,extV,extS,AV.outs,AV.outF,packD,AV.dl,fieldV,fieldS,AV.cells?,AV.upr,AV.menc,AV.one,D.one,Value.oneCell',tagOf,AV.isApp,strV,strS,bolV,bolS,slcV,AV.isSlD,asrtS,AV.dcells,D.cells?,stcV,stcS,leafOk,eqDs,eqD,packA,D.val?,↓reduceIte,reduceCtorEq,Nat.reduceAdd,Nat.reduceSub,Nat.reduceMul,List.reduceReplicate,Nat.reduceLeDiff,Nat.reduceLT,Nat.reduceBEq,Nat.reduceEqDiff,Int.reduceNeg,Int.reduceEq,Int.reduceLE,Int.reduceLT,tfb,D.flat,D.flats,av_glob,n_seq,on_s,ctz7,O7_9,O7_28,O7_36,x7_9,x7_11,x7_22,x7_25,x7_25_m1,eq_self, Int.lt_irrefl, hln2, hx10]
  refine ⟨rfl, rfl, ?_⟩
  simp (maxSteps := 4000000) +contextual (disch := first | omega | exact qdb_ok (by kernel_rfl) | exact okb_ok (by kernel_rfl)) only [bw1,bw2,bw3,bw4,bw5,bw6,bw7,bc0,bc1,bc2,bc3,bc4,bc5,bc6,bc7,bb0,setPs,AV.owns,AV.datF,AV.frz,AV.cpy,ifV,isEqB,nilV,nilX,AV.isNilS,AV.isNoRows,wk,dclo,datOf,binIs,addF,AV.isPtr,idxV,AV.isSl,AV.isSlice,AV.rows,ps,pv,extV,extS,AV.outs,AV.outF,packD,AV.dl,fieldV,fieldS,AV.cells?,AV.upr,AV.menc,AV.one,D.one,Value.oneCell',tagOf,AV.isApp,strV,strS,bolV,bolS,slcV,AV.isSlD,asrtS,AV.dcells,D.cells?,stcV,stcS,leafOk,eqDs,eqD,packA,D.val?,↓reduceIte,reduceCtorEq,Nat.reduceAdd,Nat.reduceSub,Nat.reduceMul,List.reduceReplicate,Nat.reduceLeDiff,Nat.reduceLT,Nat.reduceBEq,Nat.reduceEqDiff,Int.reduceNeg,Int.reduceEq,Int.reduceLE,Int.reduceLT,tfb,D.flat,D.flats,av_glob,n_seq,on_s,ctz7,O7_9,O7_28,O7_36,x7_9,x7_11,x7_22,x7_25,x7_25_m1,eq_self]
end Go.Proofs.YtmajlffglplcnaaDoor
