/- A part of the proof that the last text ends: what functions of the program do, told by plain data. -/
import Derived.Test.YtmajlffglplcnaaDoorMN1
set_option linter.unusedVariables false
set_option linter.unusedSimpArgs false
namespace Go.Proofs.YtmajlffglplcnaaDoor
open Go Go.E
set_option maxRecDepth 100000
set_option maxHeartbeats 16000000
theorem rw2_skip {l : List Gam} {n k : Nat} (hk : k < l.length) (h : (l.getD k default).fin = 0 ∨ ¬ (stF l (l.getD k default).home).pts = (stF l (l.getD k default).away).pts) : rw n (rw2 l k) = rw n (rw2 l (k + 1)) := rw_congr fun t _ => by
  unfold rw2
  rw [amN_succ hk]
  have : amG l t (l.getD k default) = 0 := by
    unfold amG
    split
    · rename_i hc
      rcases h with h | h
      · unfold ptG; rw [if_pos (inG_fin h)]
      · exact absurd (hc.1.trans hc.2.symm) h
    · rfl
  rw [this, Int.add_zero]
theorem rw2_step {l : List Gam} {n k : Nat} (hk : k < l.length) (hm : gmOk (l.getD k default) n = true) (hp : (stF l (l.getD k default).home).pts = (stF l (l.getD k default).away).pts) {f : Nat → Std × Int}
    (h1 : f (l.getD k default).home.toNat = ((rw2 l k (l.getD k default).home.toNat).1, (rw2 l k (l.getD k default).home.toNat).2 + ptG (l.getD k default) (l.getD k default).home))
    (h2 : f (l.getD k default).away.toNat = ((rw2 l k (l.getD k default).away.toNat).1, (rw2 l k (l.getD k default).away.toNat).2 + ptG (l.getD k default) (l.getD k default).away))
    (h3 : ∀ t : Nat, t ≠ (l.getD k default).home.toNat → t ≠ (l.getD k default).away.toNat → f t = rw2 l k t) : rw n f = rw n (rw2 l (k + 1)) := rw_congr fun t ht => by
  obtain ⟨g1, g2, g3, g4, _⟩ := gm_teams hm
  by_cases c1 : t = (l.getD k default).home.toNat
  · have e1 : (l.getD k default).home = (t : Int) := by omega
    rw [← c1] at h1
    rw [h1]
    unfold rw2
    rw [amN_succ hk, amG_yes (by rw [e1]) (by rw [← hp, e1]), ← e1]
  by_cases c2 : t = (l.getD k default).away.toNat
  · have e1 : (l.getD k default).away = (t : Int) := by omega
    rw [← c2] at h2
    rw [h2]
    unfold rw2
    rw [amN_succ hk, amG_yes (by rw [hp, e1]) (by rw [e1]), ← e1]
  · rw [h3 t c1 c2]
    unfold rw2
    rw [amN_succ hk]
    have : amG l t (l.getD k default) = 0 := by
      unfold amG
      split
      · unfold ptG; rw [if_pos (inG_no (by omega) (by omega))]
      · rfl
    rw [this, Int.add_zero]
def O33 : Nat → Sch := fun id => if id = 19 then .one 0 (.one 1 (.one 2 (.one 3 (.one 4 (.one 5 (.one 6 (.one 7 (.one 8 (.one 9 (.done)))))))))) else if id = 20 then .one 0 (.one 1 (.one 2 (.one 3 (.one 4 (.one 5 (.one 6 (.one 7 (.one 8 (.one 9 (.one 10 (.one 11 (.one 12 (.one 13 (.one 14 (.one 15 (.done)))))))))))))))) else if id = 22 then .one 0 (.one 1 (.one 2 (.one 3 (.one 4 (.one 5 (.one 6 (.one 7 (.one 8 (.one 9 (.done)))))))))) else if id = 23 then .one 0 (.one 1 (.one 2 (.one 3 (.one 4 (.one 5 (.one 6 (.one 7 (.one 8 (.one 9 (.done)))))))))) else .done
theorem O33_19 : O33 19 = .one 0 (.one 1 (.one 2 (.one 3 (.one 4 (.one 5 (.one 6 (.one 7 (.one 8 (.one 9 (.done)))))))))) := rfl
theorem O33_20 : O33 20 = .one 0 (.one 1 (.one 2 (.one 3 (.one 4 (.one 5 (.one 6 (.one 7 (.one 8 (.one 9 (.one 10 (.one 11 (.one 12 (.one 13 (.one 14 (.one 15 (.done)))))))))))))))) := rfl
theorem O33_22 : O33 22 = .one 0 (.one 1 (.one 2 (.one 3 (.one 4 (.one 5 (.one 6 (.one 7 (.one 8 (.one 9 (.done)))))))))) := rfl
theorem O33_23 : O33 23 = .one 0 (.one 1 (.one 2 (.one 3 (.one 4 (.one 5 (.one 6 (.one 7 (.one 8 (.one 9 (.done)))))))))) := rfl
theorem ho33 : Tryd.f33.body.map (okO O33) = some true := by kernel_rfl
def Cf33 : Nat → List AV → (AV → List AV → Sto → Prop) → Kt → List AV → Sto → Prop := fun f args K Q e s => match f with
  | 59 => sp59 args K e s
  | 60 => ent60 args K e s
  | _ => False
def Ct33 : CT := { f := Cf33, y := noYld, z := fun d => false }
theorem ctz33 {d : Nat} : CT.z Ct33 d = (false) := id rfl
theorem Ct33_ok : Ct33.ok Tryd.prog := ok_of_f (fun f args K Q e s h => by
  have h : Cf33 f args K Q e s := h
  unfold Cf33 at h; split at h
  · exact sp59_ok h
  · exact ent60_ok h
  · exact h.elim) (fun _ _ _ _ _ _ _ _ _ h => h)
theorem x33_60 {g : Gam} {KK : AV → List AV → Sto → Prop} {QQ : Kt} {ii : At KK} {jj : At QQ} {ee : List AV} {ss : Sto} : xC Ct33 60 [.d (.agg g.c)] KK QQ ii jj ee ss = (KK (.d (.i (resI g))) ee ss) := eq60
theorem c33 : callable Tryd.prog 33 = true := by kernel_rfl
theorem pf33 (l : Lea) (h : leaOk l = true) : PFoG Tryd.prog 33 0 gpt 70 6 [.ptr l.c 0] (fun zz => zz = rwF l) := by
  have h6 := lea_fars h
  have h64 := lea_games h
  have hg := lea_gs h
  have hr0 : rw l.far.length (fun _ => (⟨0, 0, 0, 0, 0⟩, 0)) = rw l.far.length (rw0 0) := rw_congr fun t _ => by unfold rw0; rw [if_neg (Nat.not_lt_zero t)]
  have hx59 : ∀ {args : List AV} {KK : AV → List AV → Sto → Prop} {QQ : Kt} {ii : At KK} {jj : At QQ} {ee : List AV} {ss : Sto}, xC Ct33 59 args KK QQ ii jj ee ss = sp59 args KK ee ss := id rfl
  refine PFoG_start (O := O33) Ct33_ok hmix ho33 Tryd.func33 c33 rfl Tryd.ntmps33 Tryd.results33 ?_
  simp (maxSteps := 4000000) +contextual (disch := first | omega | exact qdb_ok (by kernel_rfl) | exact okb_ok (by kernel_rfl)) only [bw1,bw2,bw3,bw4,bw5,bw6,bw7,bc0,bc1,bc2,bc3,bc4,bc5,bc6,bc7,bb0,setPs,AV.owns,AV.datF,AV.frz,AV.cpy,ifV,isEqB,nilV,nilX,AV.isNilS,AV.isNoRows,wk,dclo,datOf,binIs,addF,AV.isPtr,idxV,AV.isSl,AV.isSlice,AV.rows,ps,pv,extV,extS,AV.outs,AV.outF,packD,AV.dl,fieldV,fieldS,AV.cells?,AV.upr,AV.menc,AV.one,D.one,Value.oneCell',tagOf,AV.isApp,strV,strS,bolV,bolS,slcV,AV.isSlD,asrtS,AV.dcells,D.cells?,stcV,stcS,leafOk,eqDs,eqD,packA,D.val?,↓reduceIte,reduceCtorEq,Nat.reduceAdd,Nat.reduceSub,Nat.reduceMul,List.reduceReplicate,Nat.reduceLeDiff,Nat.reduceLT,Nat.reduceBEq,Nat.reduceEqDiff,Int.reduceNeg,Int.reduceEq,Int.reduceLE,Int.reduceLT,tfb,D.flat,D.flats,av_glob,p_bnsl,nl_nil,nl_sl,nl_own,nlR_e,nlR_n,ro_n,ro_r,qd_Ro,ox_1,or_own,or_nil,rw_len,rw_get,rw_set,upd_same,upd_ne,upd_upd,ctz33,O33_19,O33_20,O33_22,O33_23,x33_60,rw_repl, hr0]
  refine ⟨by omega, by omega, by omega, ?_⟩
  refine loop_xu (O := O33) (tb := 0) Ct33_ok hmix (by kernel_rfl) (σ := Nat) (fun k => [(5, .any), (23, .i k), (19, .any), (21, .any)]) (fun k => [(4, [.own 20 70 6 (rw l.far.length (rw0 k))])]) (fun k => k ≤ l.far.length) (fun k => l.far.length - k) 0 (Nat.zero_le _) ?_ ?_
  · simp (maxSteps := 4000000) +contextual (disch := first | omega | exact qdb_ok (by kernel_rfl) | exact okb_ok (by kernel_rfl)) only [bw1,bw2,bw3,bw4,bw5,bw6,bw7,bc0,bc1,bc2,bc3,bc4,bc5,bc6,bc7,bb0,setPs,AV.owns,AV.datF,AV.frz,AV.cpy,ifV,isEqB,nilV,nilX,AV.isNilS,AV.isNoRows,wk,dclo,datOf,binIs,addF,AV.isPtr,idxV,AV.isSl,AV.isSlice,AV.rows,ps,pv,extV,extS,AV.outs,AV.outF,packD,AV.dl,fieldV,fieldS,AV.cells?,AV.upr,AV.menc,AV.one,D.one,Value.oneCell',tagOf,AV.isApp,strV,strS,bolV,bolS,slcV,AV.isSlD,asrtS,AV.dcells,D.cells?,stcV,stcS,leafOk,eqDs,eqD,packA,D.val?,↓reduceIte,reduceCtorEq,Nat.reduceAdd,Nat.reduceSub,Nat.reduceMul,List.reduceReplicate,Nat.reduceLeDiff,Nat.reduceLT,Nat.reduceBEq,Nat.reduceEqDiff,Int.reduceNeg,Int.reduceEq,Int.reduceLE,Int.reduceLT,tfb,D.flat,D.flats,av_glob,p_bnsl,nl_nil,nl_sl,nl_own,nlR_e,nlR_n,ro_n,ro_r,qd_Ro,ox_1,or_own,or_nil,rw_len,rw_get,rw_set,upd_same,upd_ne,upd_upd,ctz33,O33_19,O33_20,O33_22,O33_23,x33_60,eq_self]
  rintro k hk
  by_cases hlt : k < l.far.length
  · have hlt' : (k : Int) < l.far.length := by omega
    simp (maxSteps := 4000000) +contextual (disch := first | omega | exact qdb_ok (by kernel_rfl) | exact okb_ok (by kernel_rfl)) only [bw1,bw2,bw3,bw4,bw5,bw6,bw7,bc0,bc1,bc2,bc3,bc4,bc5,bc6,bc7,bb0,setPs,AV.owns,AV.datF,AV.frz,AV.cpy,ifV,isEqB,nilV,nilX,AV.isNilS,AV.isNoRows,wk,dclo,datOf,binIs,addF,AV.isPtr,idxV,AV.isSl,AV.isSlice,AV.rows,ps,pv,extV,extS,AV.outs,AV.outF,packD,AV.dl,fieldV,fieldS,AV.cells?,AV.upr,AV.menc,AV.one,D.one,Value.oneCell',tagOf,AV.isApp,strV,strS,bolV,bolS,slcV,AV.isSlD,asrtS,AV.dcells,D.cells?,stcV,stcS,leafOk,eqDs,eqD,packA,D.val?,↓reduceIte,reduceCtorEq,Nat.reduceAdd,Nat.reduceSub,Nat.reduceMul,List.reduceReplicate,Nat.reduceLeDiff,Nat.reduceLT,Nat.reduceBEq,Nat.reduceEqDiff,Int.reduceNeg,Int.reduceEq,Int.reduceLE,Int.reduceLT,tfb,D.flat,D.flats,av_glob,p_bnsl,nl_nil,nl_sl,nl_own,nlR_e,nlR_n,ro_n,ro_r,qd_Ro,ox_1,or_own,or_nil,rw_len,rw_get,rw_set,upd_same,upd_ne,upd_upd,ctz33,O33_19,O33_20,O33_22,O33_23,x33_60,eq_self, hlt']
    refine ⟨by omega, k + 1, ⟨by omega, by omega⟩, rfl, rw_congr fun t _ => ?_⟩
    by_cases c : t = k
    · subst c; rw [upd_same]; unfold rw0; rw [if_pos (show t < t + 1 by omega)]
    · rw [upd_ne c]; unfold rw0
      by_cases c2 : t < k
      · rw [if_pos c2, if_pos (show t < k + 1 by omega)]
      · rw [if_neg c2, if_neg (show ¬ t < k + 1 by omega)]
  obtain rfl : k = l.far.length := by omega
  have hr1 : rw l.far.length (rw0 l.far.length) = rw l.far.length (rw1 l.games 0) := rw_congr fun t ht => by unfold rw0 rw1; rw [if_pos ht, stN_zero]
  simp (maxSteps := 4000000) +contextual (disch := first | omega | exact qdb_ok (by kernel_rfl) | exact okb_ok (by kernel_rfl)) only [bw1,bw2,bw3,bw4,bw5,bw6,bw7,bc0,bc1,bc2,bc3,bc4,bc5,bc6,bc7,bb0,setPs,AV.owns,AV.datF,AV.frz,AV.cpy,ifV,isEqB,nilV,nilX,AV.isNilS,AV.isNoRows,wk,dclo,datOf,binIs,addF,AV.isPtr,idxV,AV.isSl,AV.isSlice,AV.rows,ps,pv,extV,extS,AV.outs,AV.outF,packD,AV.dl,fieldV,fieldS,AV.cells?,AV.upr,AV.menc,AV.one,D.one,Value.oneCell',tagOf,AV.isApp,strV,strS,bolV,bolS,slcV,AV.isSlD,asrtS,AV.dcells,D.cells?,stcV,stcS,leafOk,eqDs,eqD,packA,D.val?,↓reduceIte,reduceCtorEq,Nat.reduceAdd,Nat.reduceSub,Nat.reduceMul,List.reduceReplicate,Nat.reduceLeDiff,Nat.reduceLT,Nat.reduceBEq,Nat.reduceEqDiff,Int.reduceNeg,Int.reduceEq,Int.reduceLE,Int.reduceLT,tfb,D.flat,D.flats,av_glob,p_bnsl,nl_nil,nl_sl,nl_own,nlR_e,nlR_n,ro_n,ro_r,qd_Ro,ox_1,or_own,or_nil,rw_len,rw_get,rw_set,upd_same,upd_ne,upd_upd,ctz33,O33_19,O33_20,O33_22,O33_23,x33_60,eq_self, Int.lt_irrefl, hr1]
  refine loop_xu (O := O33) (tb := 0) Ct33_ok hmix (by kernel_rfl) (σ := Nat) (fun k => [(6, .any), (7, .any), (8, .any), (38, .i k)]) (fun k => [(4, [.own 20 70 6 (rw l.far.length (rw1 l.games k))])]) (fun k => k ≤ l.games.length) (fun k => l.games.length - k) 0 (Nat.zero_le _) ?_ ?_
  · simp (maxSteps := 4000000) +contextual (disch := first | omega | exact qdb_ok (by kernel_rfl) | exact okb_ok (by kernel_rfl)) only [bw1,bw2,bw3,bw4,bw5,bw6,bw7,bc0,bc1,bc2,bc3,bc4,bc5,bc6,bc7,bb0,setPs,AV.owns,AV.datF,AV.frz,AV.cpy,ifV,isEqB,nilV,nilX,AV.isNilS,AV.isNoRows,wk,dclo,datOf,binIs,addF,AV.isPtr,idxV,AV.isSl,AV.isSlice,AV.rows,ps,pv,extV,extS,AV.outs,AV.outF,packD,AV.dl,fieldV,fieldS,AV.cells?,AV.upr,AV.menc,AV.one,D.one,Value.oneCell',tagOf,AV.isApp,strV,strS,bolV,bolS,slcV,AV.isSlD,asrtS,AV.dcells,D.cells?,stcV,stcS,leafOk,eqDs,eqD,packA,D.val?,↓reduceIte,reduceCtorEq,Nat.reduceAdd,Nat.reduceSub,Nat.reduceMul,List.reduceReplicate,Nat.reduceLeDiff,Nat.reduceLT,Nat.reduceBEq,Nat.reduceEqDiff,Int.reduceNeg,Int.reduceEq,Int.reduceLE,Int.reduceLT,tfb,D.flat,D.flats,av_glob,p_bnsl,nl_nil,nl_sl,nl_own,nlR_e,nlR_n,ro_n,ro_r,qd_Ro,ox_1,or_own,or_nil,rw_len,rw_get,rw_set,upd_same,upd_ne,upd_upd,ctz33,O33_19,O33_20,O33_22,O33_23,x33_60,eq_self]
  rintro k hk
  by_cases hlt : k < l.games.length
  case neg =>
    obtain rfl : k = l.games.length := by omega
    have hr2 : rw l.far.length (rw1 l.games l.games.length) = rw l.far.length (rw2 l.games 0) := rw_congr fun t _ => by unfold rw1 rw2 stF; rw [amN_zero]
    simp (maxSteps := 4000000) +contextual (disch := first | omega | exact qdb_ok (by kernel_rfl) | exact okb_ok (by kernel_rfl)) only [bw1,bw2,bw3,bw4,bw5,bw6,bw7,bc0,bc1,bc2,bc3,bc4,bc5,bc6,bc7,bb0,setPs,AV.owns,AV.datF,AV.frz,AV.cpy,ifV,isEqB,nilV,nilX,AV.isNilS,AV.isNoRows,wk,dclo,datOf,binIs,addF,AV.isPtr,idxV,AV.isSl,AV.isSlice,AV.rows,ps,pv,extV,extS,AV.outs,AV.outF,packD,AV.dl,fieldV,fieldS,AV.cells?,AV.upr,AV.menc,AV.one,D.one,Value.oneCell',tagOf,AV.isApp,strV,strS,bolV,bolS,slcV,AV.isSlD,asrtS,AV.dcells,D.cells?,stcV,stcS,leafOk,eqDs,eqD,packA,D.val?,↓reduceIte,reduceCtorEq,Nat.reduceAdd,Nat.reduceSub,Nat.reduceMul,List.reduceReplicate,Nat.reduceLeDiff,Nat.reduceLT,Nat.reduceBEq,Nat.reduceEqDiff,Int.reduceNeg,Int.reduceEq,Int.reduceLE,Int.reduceLT,tfb,D.flat,D.flats,av_glob,p_bnsl,nl_nil,nl_sl,nl_own,nlR_e,nlR_n,ro_n,ro_r,qd_Ro,ox_1,or_own,or_nil,rw_len,rw_get,rw_set,upd_same,upd_ne,upd_upd,ctz33,O33_19,O33_20,O33_22,O33_23,x33_60,eq_self, Int.lt_irrefl, hr2]
    refine loop_xu (O := O33) (tb := 0) Ct33_ok hmix (by kernel_rfl) (σ := Nat) (fun k => [(10, .any), (11, .any), (12, .any), (13, .any), (75, .i k)]) (fun k => [(4, [.own 20 70 6 (rw l.far.length (rw2 l.games k))])]) (fun k => k ≤ l.games.length) (fun k => l.games.length - k) 0 (Nat.zero_le _) ?_ ?_
    · simp (maxSteps := 4000000) +contextual (disch := first | omega | exact qdb_ok (by kernel_rfl) | exact okb_ok (by kernel_rfl)) only [bw1,bw2,bw3,bw4,bw5,bw6,bw7,bc0,bc1,bc2,bc3,bc4,bc5,bc6,bc7,bb0,setPs,AV.owns,AV.datF,AV.frz,AV.cpy,ifV,isEqB,nilV,nilX,AV.isNilS,AV.isNoRows,wk,dclo,datOf,binIs,addF,AV.isPtr,idxV,AV.isSl,AV.isSlice,AV.rows,ps,pv,extV,extS,AV.outs,AV.outF,packD,AV.dl,fieldV,fieldS,AV.cells?,AV.upr,AV.menc,AV.one,D.one,Value.oneCell',tagOf,AV.isApp,strV,strS,bolV,bolS,slcV,AV.isSlD,asrtS,AV.dcells,D.cells?,stcV,stcS,leafOk,eqDs,eqD,packA,D.val?,↓reduceIte,reduceCtorEq,Nat.reduceAdd,Nat.reduceSub,Nat.reduceMul,List.reduceReplicate,Nat.reduceLeDiff,Nat.reduceLT,Nat.reduceBEq,Nat.reduceEqDiff,Int.reduceNeg,Int.reduceEq,Int.reduceLE,Int.reduceLT,tfb,D.flat,D.flats,av_glob,p_bnsl,nl_nil,nl_sl,nl_own,nlR_e,nlR_n,ro_n,ro_r,qd_Ro,ox_1,or_own,or_nil,rw_len,rw_get,rw_set,upd_same,upd_ne,upd_upd,ctz33,O33_19,O33_20,O33_22,O33_23,x33_60,eq_self]
      try rfl
    rintro k hk
    by_cases hlt : k < l.games.length
    case neg =>
      obtain rfl : k = l.games.length := by omega
      simp (maxSteps := 4000000) +contextual (disch := first | omega | exact qdb_ok (by kernel_rfl) | exact okb_ok (by kernel_rfl)) only [bw1,bw2,bw3,bw4,bw5,bw6,bw7,bc0,bc1,bc2,bc3,bc4,bc5,bc6,bc7,bb0,setPs,AV.owns,AV.datF,AV.frz,AV.cpy,ifV,isEqB,nilV,nilX,AV.isNilS,AV.isNoRows,wk,dclo,datOf,binIs,addF,AV.isPtr,idxV,AV.isSl,AV.isSlice,AV.rows,ps,pv,extV,extS,AV.outs,AV.outF,packD,AV.dl,fieldV,fieldS,AV.cells?,AV.upr,AV.menc,AV.one,D.one,Value.oneCell',tagOf,AV.isApp,strV,strS,bolV,bolS,slcV,AV.isSlD,asrtS,AV.dcells,D.cells?,stcV,stcS,leafOk,eqDs,eqD,packA,D.val?,↓reduceIte,reduceCtorEq,Nat.reduceAdd,Nat.reduceSub,Nat.reduceMul,List.reduceReplicate,Nat.reduceLeDiff,Nat.reduceLT,Nat.reduceBEq,Nat.reduceEqDiff,Int.reduceNeg,Int.reduceEq,Int.reduceLE,Int.reduceLT,tfb,D.flat,D.flats,av_glob,p_bnsl,nl_nil,nl_sl,nl_own,nlR_e,nlR_n,ro_n,ro_r,qd_Ro,ox_1,or_own,or_nil,rw_len,rw_get,rw_set,upd_same,upd_ne,upd_upd,ctz33,O33_19,O33_20,O33_22,O33_23,x33_60,eq_self, Int.lt_irrefl]
      rfl
    have hlt' : (k : Int) < l.games.length := by omega
    have hm := lea_gm h hlt
    obtain ⟨g1, g2, g3, g4, _⟩ := gm_teams hm
    by_cases d1 : (l.games.getD k default).fin = 0
    · have d1b : ((l.games.getD k default).fin != 0) = false := by simpa using d1
      have hs := rw2_skip (n := l.far.length) hlt (.inl d1)
      simp (maxSteps := 4000000) +contextual (disch := first | omega | exact qdb_ok (by kernel_rfl) | exact okb_ok (by kernel_rfl)) only [bw1,bw2,bw3,bw4,bw5,bw6,bw7,bc0,bc1,bc2,bc3,bc4,bc5,bc6,bc7,bb0,setPs,AV.owns,AV.datF,AV.frz,AV.cpy,ifV,isEqB,nilV,nilX,AV.isNilS,AV.isNoRows,wk,dclo,datOf,binIs,addF,AV.isPtr,idxV,AV.isSl,AV.isSlice,AV.rows,ps,pv,extV,extS,AV.outs,AV.outF,packD,AV.dl,fieldV,fieldS,AV.cells?,AV.upr,AV.menc,AV.one,D.one,Value.oneCell',tagOf,AV.isApp,strV,strS,bolV,bolS,slcV,AV.isSlD,asrtS,AV.dcells,D.cells?,stcV,stcS,leafOk,eqDs,eqD,packA,D.val?,↓reduceIte,reduceCtorEq,Nat.reduceAdd,Nat.reduceSub,Nat.reduceMul,List.reduceReplicate,Nat.reduceLeDiff,Nat.reduceLT,Nat.reduceBEq,Nat.reduceEqDiff,Int.reduceNeg,Int.reduceEq,Int.reduceLE,Int.reduceLT,tfb,D.flat,D.flats,av_glob,p_bnsl,nl_nil,nl_sl,nl_own,nlR_e,nlR_n,ro_n,ro_r,qd_Ro,ox_1,or_own,or_nil,rw_len,rw_get,rw_set,upd_same,upd_ne,upd_upd,ctz33,O33_19,O33_20,O33_22,O33_23,x33_60,eq_self, hlt', d1b]
      repeat (refine And.intro (by omega) ?_)
      exact ⟨k + 1, ⟨by omega, by omega⟩, rfl, hs⟩
    have d1b : ((l.games.getD k default).fin != 0) = true := by simpa using d1
    have t1 : (((l.games.getD k default).home.toNat : Nat) : Int) = (l.games.getD k default).home := by omega
    have t2 : (((l.games.getD k default).away.toNat : Nat) : Int) = (l.games.getD k default).away := by omega
    by_cases d2 : (stF l.games (l.games.getD k default).home.toNat).pts = (stF l.games (l.games.getD k default).away.toNat).pts
    case neg =>
      have d2b : ((rw2 l.games k (l.games.getD k default).home.toNat).1.pts == (rw2 l.games k (l.games.getD k default).away.toNat).1.pts) = false := by unfold rw2; simpa using d2
      have hs := rw2_skip (n := l.far.length) hlt (.inr (by rw [t1, t2] at d2; exact d2))
      simp (maxSteps := 4000000) +contextual (disch := first | omega | exact qdb_ok (by kernel_rfl) | exact okb_ok (by kernel_rfl)) only [bw1,bw2,bw3,bw4,bw5,bw6,bw7,bc0,bc1,bc2,bc3,bc4,bc5,bc6,bc7,bb0,setPs,AV.owns,AV.datF,AV.frz,AV.cpy,ifV,isEqB,nilV,nilX,AV.isNilS,AV.isNoRows,wk,dclo,datOf,binIs,addF,AV.isPtr,idxV,AV.isSl,AV.isSlice,AV.rows,ps,pv,extV,extS,AV.outs,AV.outF,packD,AV.dl,fieldV,fieldS,AV.cells?,AV.upr,AV.menc,AV.one,D.one,Value.oneCell',tagOf,AV.isApp,strV,strS,bolV,bolS,slcV,AV.isSlD,asrtS,AV.dcells,D.cells?,stcV,stcS,leafOk,eqDs,eqD,packA,D.val?,↓reduceIte,reduceCtorEq,Nat.reduceAdd,Nat.reduceSub,Nat.reduceMul,List.reduceReplicate,Nat.reduceLeDiff,Nat.reduceLT,Nat.reduceBEq,Nat.reduceEqDiff,Int.reduceNeg,Int.reduceEq,Int.reduceLE,Int.reduceLT,tfb,D.flat,D.flats,av_glob,p_bnsl,nl_nil,nl_sl,nl_own,nlR_e,nlR_n,ro_n,ro_r,qd_Ro,ox_1,or_own,or_nil,rw_len,rw_get,rw_set,upd_same,upd_ne,upd_upd,ctz33,O33_19,O33_20,O33_22,O33_23,x33_60,eq_self, hlt', d1b, d2b]
      repeat (refine And.intro (by omega) ?_)
      exact ⟨k + 1, ⟨by omega, by omega⟩, rfl, hs⟩
    have d2b : ((rw2 l.games k (l.games.getD k default).home.toNat).1.pts == (rw2 l.games k (l.games.getD k default).away.toNat).1.pts) = true := by unfold rw2; simpa using d2
    have hv : (0 ≤ resI (l.games.getD k default) ∧ resI (l.games.getD k default) < 4) ∧ List.take 2 (List.drop ((resI (l.games.getD k default)).toNat * 2) gpt) = [.i (ptG (l.games.getD k default) (l.games.getD k default).home), .i (ptG (l.games.getD k default) (l.games.getD k default).away)] := by
      rcases res_pts hm d1 with ⟨e1, e2, e3⟩ | ⟨e1, e2, e3⟩ | ⟨e1, e2, e3⟩ | ⟨e1, e2, e3⟩ <;> (rw [e1, e2, e3]; exact ⟨by omega, rfl⟩)
    obtain ⟨hv1, hv2⟩ := hv
    have pb1 := ptG_b (l.games.getD k default) (l.games.getD k default).home
    have pb2 := ptG_b (l.games.getD k default) (l.games.getD k default).away
    have q1 : 0 ≤ (rw2 l.games k (l.games.getD k default).home.toNat).2 ∧ (rw2 l.games k (l.games.getD k default).home.toNat).2 ≤ 3 * k := amN_b (l := l.games) (t := ((l.games.getD k default).home.toNat : Int)) k hk
    have q2 : 0 ≤ (rw2 l.games k (l.games.getD k default).away.toNat).2 ∧ (rw2 l.games k (l.games.getD k default).away.toNat).2 ≤ 3 * k := amN_b (l := l.games) (t := ((l.games.getD k default).away.toNat : Int)) k hk
    simp (maxSteps := 4000000) +contextual (disch := first | omega | exact qdb_ok (by kernel_rfl) | exact okb_ok (by kernel_rfl)) only [bw1,bw2,bw3,bw4,bw5,bw6,bw7,bc0,bc1,bc2,bc3,bc4,bc5,bc6,bc7,bb0,setPs,AV.owns,AV.datF,AV.frz,AV.cpy,ifV,isEqB,nilV,nilX,AV.isNilS,AV.isNoRows,wk,dclo,datOf,binIs,addF,AV.isPtr,idxV,AV.isSl,AV.isSlice,AV.rows,ps,pv,extV,extS,AV.outs,AV.outF,packD,AV.dl,fieldV,fieldS,AV.cells?,AV.upr,AV.menc,AV.one,D.one,Value.oneCell',tagOf,AV.isApp,strV,strS,bolV,bolS,slcV,AV.isSlD,asrtS,AV.dcells,D.cells?,stcV,stcS,leafOk,eqDs,eqD,packA,D.val?,↓reduceIte,reduceCtorEq,Nat.reduceAdd,Nat.reduceSub,Nat.reduceMul,List.reduceReplicate,Nat.reduceLeDiff,Nat.reduceLT,Nat.reduceBEq,Nat.reduceEqDiff,Int.reduceNeg,Int.reduceEq,Int.reduceLE,Int.reduceLT,tfb,D.flat,D.flats,av_glob,p_bnsl,nl_nil,nl_sl,nl_own,nlR_e,nlR_n,ro_n,ro_r,qd_Ro,ox_1,or_own,or_nil,rw_len,rw_get,rw_set,upd_same,upd_ne,upd_upd,ctz33,O33_19,O33_20,O33_22,O33_23,x33_60,eq_self, hlt', d1b, d2b, hv2, Int.toNat_zero, Nat.zero_mul, Int.toNat_one, Nat.mul_one]
    repeat (refine And.intro (by omega) ?_)
    exact ⟨k + 1, ⟨by omega, by omega⟩, rfl, rw2_step hlt hm (by rw [t1, t2] at d2; exact d2) (by rw [upd_ne (by omega), upd_same]) (by rw [upd_same]) (fun t h1 h2 => by rw [upd_ne h2, upd_ne h1])⟩
  have hlt' : (k : Int) < l.games.length := by omega
  by_cases d1 : (l.games.getD k default).fin = 0
  · have d1b : ((l.games.getD k default).fin == 0) = true := by simpa using d1
    have hs := rw1_skip (n := l.far.length) hlt d1
    simp (maxSteps := 4000000) +contextual (disch := first | omega | exact qdb_ok (by kernel_rfl) | exact okb_ok (by kernel_rfl)) only [bw1,bw2,bw3,bw4,bw5,bw6,bw7,bc0,bc1,bc2,bc3,bc4,bc5,bc6,bc7,bb0,setPs,AV.owns,AV.datF,AV.frz,AV.cpy,ifV,isEqB,nilV,nilX,AV.isNilS,AV.isNoRows,wk,dclo,datOf,binIs,addF,AV.isPtr,idxV,AV.isSl,AV.isSlice,AV.rows,ps,pv,extV,extS,AV.outs,AV.outF,packD,AV.dl,fieldV,fieldS,AV.cells?,AV.upr,AV.menc,AV.one,D.one,Value.oneCell',tagOf,AV.isApp,strV,strS,bolV,bolS,slcV,AV.isSlD,asrtS,AV.dcells,D.cells?,stcV,stcS,leafOk,eqDs,eqD,packA,D.val?,↓reduceIte,reduceCtorEq,Nat.reduceAdd,Nat.reduceSub,Nat.reduceMul,List.reduceReplicate,Nat.reduceLeDiff,Nat.reduceLT,Nat.reduceBEq,Nat.reduceEqDiff,Int.reduceNeg,Int.reduceEq,Int.reduceLE,Int.reduceLT,tfb,D.flat,D.flats,av_glob,p_bnsl,nl_nil,nl_sl,nl_own,nlR_e,nlR_n,ro_n,ro_r,qd_Ro,ox_1,or_own,or_nil,rw_len,rw_get,rw_set,upd_same,upd_ne,upd_upd,ctz33,O33_19,O33_20,O33_22,O33_23,x33_60,eq_self, hlt', d1b]
    repeat (refine And.intro (by omega) ?_)
    exact ⟨k + 1, ⟨by omega, by omega⟩, rfl, hs⟩
  have d1b : ((l.games.getD k default).fin == 0) = false := by simpa using d1
  have hm := lea_gm h hlt
  obtain ⟨g1, g2, g3, g4, _⟩ := gm_teams hm
  have g5 := (gm_goals hm).resolve_left d1
  have b1 := stN_b (t := ((l.games.getD k default).home.toNat : Int)) hg k hk
  have b2 := stN_b (t := ((l.games.getD k default).away.toNat : Int)) hg k hk
  unfold StB at b1 b2
  have hv : (0 ≤ resI (l.games.getD k default) ∧ resI (l.games.getD k default) < 4) ∧ List.take 2 (List.drop ((resI (l.games.getD k default)).toNat * 2) gpt) = [.i (ptG (l.games.getD k default) (l.games.getD k default).home), .i (ptG (l.games.getD k default) (l.games.getD k default).away)] := by
    rcases res_pts hm d1 with ⟨e1, e2, e3⟩ | ⟨e1, e2, e3⟩ | ⟨e1, e2, e3⟩ | ⟨e1, e2, e3⟩ <;> (rw [e1, e2, e3]; exact ⟨by omega, rfl⟩)
  obtain ⟨hv1, hv2⟩ := hv
  have pb1 := ptG_b (l.games.getD k default) (l.games.getD k default).home
  have pb2 := ptG_b (l.games.getD k default) (l.games.getD k default).away
  simp (maxSteps := 4000000) +contextual (disch := first | omega | exact qdb_ok (by kernel_rfl) | exact okb_ok (by kernel_rfl)) only [bw1,bw2,bw3,bw4,bw5,bw6,bw7,bc0,bc1,bc2,bc3,bc4,bc5,bc6,bc7,bb0,setPs,AV.owns,AV.datF,AV.frz,AV.cpy,ifV,isEqB,nilV,nilX,AV.isNilS,AV.isNoRows,wk,dclo,datOf,binIs,addF,AV.isPtr,idxV,AV.isSl,AV.isSlice,AV.rows,ps,pv,extV,extS,AV.outs,AV.outF,packD,AV.dl,fieldV,fieldS,AV.cells?,AV.upr,AV.menc,AV.one,D.one,Value.oneCell',tagOf,AV.isApp,strV,strS,bolV,bolS,slcV,AV.isSlD,asrtS,AV.dcells,D.cells?,stcV,stcS,leafOk,eqDs,eqD,packA,D.val?,↓reduceIte,reduceCtorEq,Nat.reduceAdd,Nat.reduceSub,Nat.reduceMul,List.reduceReplicate,Nat.reduceLeDiff,Nat.reduceLT,Nat.reduceBEq,Nat.reduceEqDiff,Int.reduceNeg,Int.reduceEq,Int.reduceLE,Int.reduceLT,tfb,D.flat,D.flats,av_glob,p_bnsl,nl_nil,nl_sl,nl_own,nlR_e,nlR_n,ro_n,ro_r,qd_Ro,ox_1,or_own,or_nil,rw_len,rw_get,rw_set,upd_same,upd_ne,upd_upd,ctz33,O33_19,O33_20,O33_22,O33_23,x33_60,eq_self, hlt', d1b, hv2, hx59, Int.toNat_zero, Nat.zero_mul, Int.toNat_one, Nat.mul_one]
  refine ⟨by omega, by omega, by omega, by omega, l.far.length, rw1 l.games k, _, _, _, _, ⟨by omega, ?_, pb1, g5.1, g5.2.1⟩, rfl, ⟨rfl, by simp [AV.stays, AV.stay], by simp [othL, AV.stays, AV.stay]⟩, ?_⟩
  · show StB (stN l.games _ k) 64
    unfold StB; omega
  simp (maxSteps := 4000000) +contextual (disch := first | omega | exact qdb_ok (by kernel_rfl) | exact okb_ok (by kernel_rfl)) only [bw1,bw2,bw3,bw4,bw5,bw6,bw7,bc0,bc1,bc2,bc3,bc4,bc5,bc6,bc7,bb0,setPs,AV.owns,AV.datF,AV.frz,AV.cpy,ifV,isEqB,nilV,nilX,AV.isNilS,AV.isNoRows,wk,dclo,datOf,binIs,addF,AV.isPtr,idxV,AV.isSl,AV.isSlice,AV.rows,ps,pv,extV,extS,AV.outs,AV.outF,packD,AV.dl,fieldV,fieldS,AV.cells?,AV.upr,AV.menc,AV.one,D.one,Value.oneCell',tagOf,AV.isApp,strV,strS,bolV,bolS,slcV,AV.isSlD,asrtS,AV.dcells,D.cells?,stcV,stcS,leafOk,eqDs,eqD,packA,D.val?,↓reduceIte,reduceCtorEq,Nat.reduceAdd,Nat.reduceSub,Nat.reduceMul,List.reduceReplicate,Nat.reduceLeDiff,Nat.reduceLT,Nat.reduceBEq,Nat.reduceEqDiff,Int.reduceNeg,Int.reduceEq,Int.reduceLE,Int.reduceLT,tfb,D.flat,D.flats,av_glob,p_bnsl,nl_nil,nl_sl,nl_own,nlR_e,nlR_n,ro_n,ro_r,qd_Ro,ox_1,or_own,or_nil,rw_len,rw_get,rw_set,upd_same,upd_ne,upd_upd,ctz33,O33_19,O33_20,O33_22,O33_23,x33_60,mer, List.contains_cons, List.contains_nil, hx59, Int.toNat_zero, Nat.zero_mul, Int.toNat_one, Nat.mul_one]
  refine ⟨by omega, l.far.length, _, _, _, _, _, ⟨by omega, ?_, pb2, g5.2.1, g5.1⟩, rfl, ⟨rfl, by simp [AV.stays, AV.stay], by simp [othL, AV.stays, AV.stay]⟩, ?_⟩
  · rw [upd_ne (by omega)]
    show StB (stN l.games _ k) 64
    unfold StB; omega
  simp (maxSteps := 4000000) +contextual (disch := first | omega | exact qdb_ok (by kernel_rfl) | exact okb_ok (by kernel_rfl)) only [bw1,bw2,bw3,bw4,bw5,bw6,bw7,bc0,bc1,bc2,bc3,bc4,bc5,bc6,bc7,bb0,setPs,AV.owns,AV.datF,AV.frz,AV.cpy,ifV,isEqB,nilV,nilX,AV.isNilS,AV.isNoRows,wk,dclo,datOf,binIs,addF,AV.isPtr,idxV,AV.isSl,AV.isSlice,AV.rows,ps,pv,extV,extS,AV.outs,AV.outF,packD,AV.dl,fieldV,fieldS,AV.cells?,AV.upr,AV.menc,AV.one,D.one,Value.oneCell',tagOf,AV.isApp,strV,strS,bolV,bolS,slcV,AV.isSlD,asrtS,AV.dcells,D.cells?,stcV,stcS,leafOk,eqDs,eqD,packA,D.val?,↓reduceIte,reduceCtorEq,Nat.reduceAdd,Nat.reduceSub,Nat.reduceMul,List.reduceReplicate,Nat.reduceLeDiff,Nat.reduceLT,Nat.reduceBEq,Nat.reduceEqDiff,Int.reduceNeg,Int.reduceEq,Int.reduceLE,Int.reduceLT,tfb,D.flat,D.flats,av_glob,p_bnsl,nl_nil,nl_sl,nl_own,nlR_e,nlR_n,ro_n,ro_r,qd_Ro,ox_1,or_own,or_nil,rw_len,rw_get,rw_set,upd_same,upd_ne,upd_upd,ctz33,O33_19,O33_20,O33_22,O33_23,x33_60,mer, List.contains_cons, List.contains_nil]
  exact ⟨k + 1, ⟨by omega, by omega⟩, rfl, rw1_step hlt hm d1 rfl rfl (by rw [upd_ne (by omega), upd_same]; rfl) (by rw [upd_same]; unfold addR; rw [upd_ne (by omega)]; rfl) (fun t h1 h2 => by rw [upd_ne h2, upd_ne h1])⟩
end Go.Proofs.YtmajlffglplcnaaDoor
