/- A part of the proof that the last text ends: what functions of the program do, told by plain data. -/
import Derived.Test.YtmajlffglplcnaaDoorMC
set_option linter.unusedVariables false
set_option linter.unusedSimpArgs false
namespace Go.Proofs.YtmajlffglplcnaaDoor
open Go Go.E
set_option maxRecDepth 100000
set_option maxHeartbeats 16000000
def twB (g : Gam) (r : List Gam) : Bool := r.any fun h => decide (h.day = g.day) && (hasB h g.home || hasB h g.away)
def lgN (l : List Gam) : Nat → Nat → Int × Int
  | 0, i => ((i : Int), 0)
  | k + 1, i => if 0 < i ∧ (l.getD i default).day < (l.getD (i - 1) default).day then ((i : Int), 7) else if twB (l.getD i default) (l.take i) = true then ((i : Int), 5) else lgN l k (i + 1)
def lgR (l : Lea) : Int × Int := if leaOk l = true then lgN l.games l.games.length 0 else (0, 1)
theorem lea_games {l : Lea} (h : leaOk l = true) : l.games.length ≤ 64 := by
  unfold leaOk at h
  simp only [Bool.and_eq_true, decide_eq_true_eq] at h
  omega
def O11 : Nat → Sch := fun id => if id = 6 then .one 0 (.one 1 (.one 2 (.one 3 (.one 4 (.one 5 (.one 6 (.one 7 (.one 8 (.one 9 (.one 10 (.one 11 (.one 12 (.one 13 (.done)))))))))))))) else .done
theorem O11_6 : O11 6 = .one 0 (.one 1 (.one 2 (.one 3 (.one 4 (.one 5 (.one 6 (.one 7 (.one 8 (.one 9 (.one 10 (.one 11 (.one 12 (.one 13 (.done)))))))))))))) := rfl
theorem ho11 : Tryd.f11.body.map (okO O11) = some true := by kernel_rfl
def Cf11 : Nat → List AV → (AV → List AV → Sto → Prop) → Kt → List AV → Sto → Prop := fun f args K Q e s => match f with
  | 28 => ent28 args K e s
  | 29 => ent29 args K e s
  | _ => False
def Ct11 : CT := { f := Cf11, y := noYld, z := fun d => false }
theorem ctz11 {d : Nat} : CT.z Ct11 d = (false) := id rfl
theorem Ct11_ok : Ct11.ok Tryd.prog := ok_of_f (fun f args K Q e s h => by
  have h : Cf11 f args K Q e s := h
  unfold Cf11 at h; split at h
  · exact ent28_ok h
  · exact ent29_ok h
  · exact h.elim) (fun _ _ _ _ _ _ _ _ _ h => h)
theorem x11_28 {l : Lea} {KK : AV → List AV → Sto → Prop} {QQ : Kt} {ii : At KK} {jj : At QQ} {ee : List AV} {ss : Sto} : xC Ct11 28 [.d (.agg l.c)] KK QQ ii jj ee ss = ((l.far.length ≤ 1000) ∧ KK (.d (.b (leaOk l))) ee ss) := eq28
theorem x11_29 {g : Gam} {t : Int} {KK : AV → List AV → Sto → Prop} {QQ : Kt} {ii : At KK} {jj : At QQ} {ee : List AV} {ss : Sto} : xC Ct11 29 [.d (.agg g.c), .d (.i t)] KK QQ ii jj ee ss = (KK (.d (.b (hasB g t))) ee ss) := eq29
theorem c11 : callable Tryd.prog 11 = true := by kernel_rfl
theorem pf11 (l : Lea) (h : l.far.length ≤ 1000) : PF Tryd.prog 11 [.agg l.c] (fun zz => zz = .ret (.tup [.i (lgR l).1, .i (lgR l).2])) := by
  have hfar := h
  unfold lgR
  by_cases c0 : leaOk l = true
  case neg =>
    rw [if_neg c0]
    refine PF_nil (PF_start (O := O11) Ct11_ok hmix ho11 Tryd.func11 c11 rfl Tryd.ntmps11 Tryd.results11 ?_)
    simp (maxSteps := 4000000) +contextual (disch := first | omega | exact qdb_ok (by kernel_rfl) | exact okb_ok (by kernel_rfl)) only [bw1,bw2,bw3,bw4,bw5,bw6,bw7,bc0,bc1,bc2,bc3,bc4,bc5,bc6,bc7,bb0,setPs,AV.owns,AV.datF,AV.frz,AV.cpy,ifV,isEqB,nilV,nilX,AV.isNilS,AV.isNoRows,wk,dclo,datOf,binIs,addF,AV.isPtr,idxV,AV.isSl,AV.isSlice,AV.rows,ps,pv,extV,extS,AV.outs,AV.outF,packD,AV.dl,fieldV,fieldS,AV.cells?,AV.upr,AV.menc,AV.one,D.one,Value.oneCell',tagOf,AV.isApp,strV,strS,bolV,bolS,slcV,AV.isSlD,asrtS,AV.dcells,D.cells?,stcV,stcS,leafOk,eqDs,eqD,packA,D.val?,↓reduceIte,reduceCtorEq,Nat.reduceAdd,Nat.reduceSub,Nat.reduceMul,List.reduceReplicate,Nat.reduceLeDiff,Nat.reduceLT,Nat.reduceBEq,Nat.reduceEqDiff,Int.reduceNeg,Int.reduceEq,Int.reduceLE,Int.reduceLT,tfb,ctz11,O11_6,x11_28,x11_29,c0, hfar]
  rw [if_pos c0]
  have h64 := lea_games c0
  obtain ⟨W, hW⟩ : ∃ W, W = lgN l.games l.games.length 0 := ⟨_, rfl⟩
  rw [← hW]
  refine PF_nil (PF_start (O := O11) Ct11_ok hmix ho11 Tryd.func11 c11 rfl Tryd.ntmps11 Tryd.results11 ?_)
  simp (maxSteps := 4000000) +contextual (disch := first | omega | exact qdb_ok (by kernel_rfl) | exact okb_ok (by kernel_rfl)) only [bw1,bw2,bw3,bw4,bw5,bw6,bw7,bc0,bc1,bc2,bc3,bc4,bc5,bc6,bc7,bb0,setPs,AV.owns,AV.datF,AV.frz,AV.cpy,ifV,isEqB,nilV,nilX,AV.isNilS,AV.isNoRows,wk,dclo,datOf,binIs,addF,AV.isPtr,idxV,AV.isSl,AV.isSlice,AV.rows,ps,pv,extV,extS,AV.outs,AV.outF,packD,AV.dl,fieldV,fieldS,AV.cells?,AV.upr,AV.menc,AV.one,D.one,Value.oneCell',tagOf,AV.isApp,strV,strS,bolV,bolS,slcV,AV.isSlD,asrtS,AV.dcells,D.cells?,stcV,stcS,leafOk,eqDs,eqD,packA,D.val?,↓reduceIte,reduceCtorEq,Nat.reduceAdd,Nat.reduceSub,Nat.reduceMul,List.reduceReplicate,Nat.reduceLeDiff,Nat.reduceLT,Nat.reduceBEq,Nat.reduceEqDiff,Int.reduceNeg,Int.reduceEq,Int.reduceLE,Int.reduceLT,tfb,ctz11,O11_6,x11_28,x11_29,c0, hfar]
  refine loop_xu (O := O11) (tb := 0) Ct11_ok hmix (by kernel_rfl) (σ := Nat) (fun i => [(14, .i i)]) (fun _ => []) (fun i => i ≤ l.games.length ∧ lgN l.games (l.games.length - i) i = W) (fun i => l.games.length - i) 0 ⟨Nat.zero_le _, hW.symm⟩ ?_ ?_
  · simp (maxSteps := 4000000) +contextual (disch := first | omega | exact qdb_ok (by kernel_rfl) | exact okb_ok (by kernel_rfl)) only [bw1,bw2,bw3,bw4,bw5,bw6,bw7,bc0,bc1,bc2,bc3,bc4,bc5,bc6,bc7,bb0,setPs,AV.owns,AV.datF,AV.frz,AV.cpy,ifV,isEqB,nilV,nilX,AV.isNilS,AV.isNoRows,wk,dclo,datOf,binIs,addF,AV.isPtr,idxV,AV.isSl,AV.isSlice,AV.rows,ps,pv,extV,extS,AV.outs,AV.outF,packD,AV.dl,fieldV,fieldS,AV.cells?,AV.upr,AV.menc,AV.one,D.one,Value.oneCell',tagOf,AV.isApp,strV,strS,bolV,bolS,slcV,AV.isSlD,asrtS,AV.dcells,D.cells?,stcV,stcS,leafOk,eqDs,eqD,packA,D.val?,↓reduceIte,reduceCtorEq,Nat.reduceAdd,Nat.reduceSub,Nat.reduceMul,List.reduceReplicate,Nat.reduceLeDiff,Nat.reduceLT,Nat.reduceBEq,Nat.reduceEqDiff,Int.reduceNeg,Int.reduceEq,Int.reduceLE,Int.reduceLT,tfb,ctz11,O11_6,x11_28,x11_29,eq_self]
    try rfl
  rintro i ⟨hi, hw⟩
  by_cases hlt : i < l.games.length
  case neg =>
    obtain rfl : i = l.games.length := by omega
    rw [Nat.sub_self, lgN] at hw
    simp (maxSteps := 4000000) +contextual (disch := first | omega | exact qdb_ok (by kernel_rfl) | exact okb_ok (by kernel_rfl)) only [bw1,bw2,bw3,bw4,bw5,bw6,bw7,bc0,bc1,bc2,bc3,bc4,bc5,bc6,bc7,bb0,setPs,AV.owns,AV.datF,AV.frz,AV.cpy,ifV,isEqB,nilV,nilX,AV.isNilS,AV.isNoRows,wk,dclo,datOf,binIs,addF,AV.isPtr,idxV,AV.isSl,AV.isSlice,AV.rows,ps,pv,extV,extS,AV.outs,AV.outF,packD,AV.dl,fieldV,fieldS,AV.cells?,AV.upr,AV.menc,AV.one,D.one,Value.oneCell',tagOf,AV.isApp,strV,strS,bolV,bolS,slcV,AV.isSlD,asrtS,AV.dcells,D.cells?,stcV,stcS,leafOk,eqDs,eqD,packA,D.val?,↓reduceIte,reduceCtorEq,Nat.reduceAdd,Nat.reduceSub,Nat.reduceMul,List.reduceReplicate,Nat.reduceLeDiff,Nat.reduceLT,Nat.reduceBEq,Nat.reduceEqDiff,Int.reduceNeg,Int.reduceEq,Int.reduceLE,Int.reduceLT,tfb,ctz11,O11_6,x11_28,x11_29,eq_self, Int.lt_irrefl, ← hw]
  have hlt' : (i : Int) < l.games.length := by omega
  rw [show l.games.length - i = (l.games.length - (i + 1)) + 1 by omega, lgN] at hw
  by_cases z : 0 < i
  case' pos =>
    have z' : (0 : Int) < i := by omega
    have e1 : (i : Int) - 1 = ((i - 1 : Nat) : Int) := by omega
    by_cases c2 : (l.games.getD i default).day < (l.games.getD (i - 1) default).day
    case pos =>
      rw [if_pos ⟨z, c2⟩] at hw
      simp (maxSteps := 4000000) +contextual (disch := first | omega | exact qdb_ok (by kernel_rfl) | exact okb_ok (by kernel_rfl)) only [bw1,bw2,bw3,bw4,bw5,bw6,bw7,bc0,bc1,bc2,bc3,bc4,bc5,bc6,bc7,bb0,setPs,AV.owns,AV.datF,AV.frz,AV.cpy,ifV,isEqB,nilV,nilX,AV.isNilS,AV.isNoRows,wk,dclo,datOf,binIs,addF,AV.isPtr,idxV,AV.isSl,AV.isSlice,AV.rows,ps,pv,extV,extS,AV.outs,AV.outF,packD,AV.dl,fieldV,fieldS,AV.cells?,AV.upr,AV.menc,AV.one,D.one,Value.oneCell',tagOf,AV.isApp,strV,strS,bolV,bolS,slcV,AV.isSlD,asrtS,AV.dcells,D.cells?,stcV,stcS,leafOk,eqDs,eqD,packA,D.val?,↓reduceIte,reduceCtorEq,Nat.reduceAdd,Nat.reduceSub,Nat.reduceMul,List.reduceReplicate,Nat.reduceLeDiff,Nat.reduceLT,Nat.reduceBEq,Nat.reduceEqDiff,Int.reduceNeg,Int.reduceEq,Int.reduceLE,Int.reduceLT,tfb,ctz11,O11_6,x11_28,x11_29,eq_self, hlt', z', e1, c2, ← hw]
      and_intros <;> first | omega | rfl | trivial
    rw [if_neg (fun h => c2 h.2)] at hw
  case' neg =>
    have z' : ¬ (0 : Int) < i := by omega
    have c2 := z'
    have e1 := z'
    rw [if_neg (fun h => z h.1)] at hw
  all_goals
    simp (maxSteps := 4000000) +contextual (disch := first | omega | exact qdb_ok (by kernel_rfl) | exact okb_ok (by kernel_rfl)) only [bw1,bw2,bw3,bw4,bw5,bw6,bw7,bc0,bc1,bc2,bc3,bc4,bc5,bc6,bc7,bb0,setPs,AV.owns,AV.datF,AV.frz,AV.cpy,ifV,isEqB,nilV,nilX,AV.isNilS,AV.isNoRows,wk,dclo,datOf,binIs,addF,AV.isPtr,idxV,AV.isSl,AV.isSlice,AV.rows,ps,pv,extV,extS,AV.outs,AV.outF,packD,AV.dl,fieldV,fieldS,AV.cells?,AV.upr,AV.menc,AV.one,D.one,Value.oneCell',tagOf,AV.isApp,strV,strS,bolV,bolS,slcV,AV.isSlD,asrtS,AV.dcells,D.cells?,stcV,stcS,leafOk,eqDs,eqD,packA,D.val?,↓reduceIte,reduceCtorEq,Nat.reduceAdd,Nat.reduceSub,Nat.reduceMul,List.reduceReplicate,Nat.reduceLeDiff,Nat.reduceLT,Nat.reduceBEq,Nat.reduceEqDiff,Int.reduceNeg,Int.reduceEq,Int.reduceLE,Int.reduceLT,tfb,ctz11,O11_6,x11_28,x11_29,eq_self, hlt', z', e1, c2, Int.toNat_natCast, Int.toNat_zero, List.drop_zero, ← List.map_take]
    and_intros
    any_goals omega
    have htl : (l.games.take i).length = i := by rw [List.length_take]; omega
    have hta : ∀ k, k < i → (l.games.take i).getD k default = l.games.getD k default := fun k hk => by rw [at_lt (by omega), at_lt (by omega), List.getElem_take]
    have htw : twB (l.games.getD i default) (l.games.take i) = true ↔ ∃ k, k < i ∧ ((l.games.getD k default).day = (l.games.getD i default).day ∧ (hasB (l.games.getD k default) (l.games.getD i default).home = true ∨ hasB (l.games.getD k default) (l.games.getD i default).away = true)) := by
      unfold twB
      rw [List.any_eq_true]
      constructor
      · rintro ⟨h, h1, h2⟩
        obtain ⟨k, hk, rfl⟩ := List.getElem_of_mem h1
        rw [Bool.and_eq_true, Bool.or_eq_true, decide_eq_true_eq] at h2
        have := hta k (by omega)
        rw [at_lt hk] at this
        rw [this] at h2
        exact ⟨k, by omega, h2⟩
      · rintro ⟨k, hk, h2⟩
        refine ⟨(l.games.take i).getD k default, by rw [at_lt (by omega)]; exact List.getElem_mem _, ?_⟩
        rw [hta k hk, Bool.and_eq_true, Bool.or_eq_true, decide_eq_true_eq]; exact h2
    generalize l.games.take i = T at htl hta htw hw
    refine loop_xu (O := O11) (tb := 0) Ct11_ok hmix (by kernel_rfl) (σ := Nat) (fun k => [(39, .i k)]) (fun _ => []) (fun k => k ≤ i ∧ ∀ q, q < k → ¬ ((l.games.getD q default).day = (l.games.getD i default).day ∧ (hasB (l.games.getD q default) (l.games.getD i default).home = true ∨ hasB (l.games.getD q default) (l.games.getD i default).away = true))) (fun k => i - k) 0 ⟨Nat.zero_le _, fun q hq => by omega⟩ ?_ ?_
    · simp (maxSteps := 4000000) +contextual (disch := first | omega | exact qdb_ok (by kernel_rfl) | exact okb_ok (by kernel_rfl)) only [bw1,bw2,bw3,bw4,bw5,bw6,bw7,bc0,bc1,bc2,bc3,bc4,bc5,bc6,bc7,bb0,setPs,AV.owns,AV.datF,AV.frz,AV.cpy,ifV,isEqB,nilV,nilX,AV.isNilS,AV.isNoRows,wk,dclo,datOf,binIs,addF,AV.isPtr,idxV,AV.isSl,AV.isSlice,AV.rows,ps,pv,extV,extS,AV.outs,AV.outF,packD,AV.dl,fieldV,fieldS,AV.cells?,AV.upr,AV.menc,AV.one,D.one,Value.oneCell',tagOf,AV.isApp,strV,strS,bolV,bolS,slcV,AV.isSlD,asrtS,AV.dcells,D.cells?,stcV,stcS,leafOk,eqDs,eqD,packA,D.val?,↓reduceIte,reduceCtorEq,Nat.reduceAdd,Nat.reduceSub,Nat.reduceMul,List.reduceReplicate,Nat.reduceLeDiff,Nat.reduceLT,Nat.reduceBEq,Nat.reduceEqDiff,Int.reduceNeg,Int.reduceEq,Int.reduceLE,Int.reduceLT,tfb,ctz11,O11_6,x11_28,x11_29,eq_self]
      try rfl
    rintro k ⟨hk1, hk2⟩
    by_cases hki : k < i
    · have hki' : (k : Int) < T.length := by omega
      have htk := hta k hki
      by_cases d1 : (l.games.getD k default).day = (l.games.getD i default).day
      case neg =>
        have d1b : ((l.games.getD k default).day == (l.games.getD i default).day) = false := by simpa using d1
        simp (maxSteps := 4000000) +contextual (disch := first | omega | exact qdb_ok (by kernel_rfl) | exact okb_ok (by kernel_rfl)) only [bw1,bw2,bw3,bw4,bw5,bw6,bw7,bc0,bc1,bc2,bc3,bc4,bc5,bc6,bc7,bb0,setPs,AV.owns,AV.datF,AV.frz,AV.cpy,ifV,isEqB,nilV,nilX,AV.isNilS,AV.isNoRows,wk,dclo,datOf,binIs,addF,AV.isPtr,idxV,AV.isSl,AV.isSlice,AV.rows,ps,pv,extV,extS,AV.outs,AV.outF,packD,AV.dl,fieldV,fieldS,AV.cells?,AV.upr,AV.menc,AV.one,D.one,Value.oneCell',tagOf,AV.isApp,strV,strS,bolV,bolS,slcV,AV.isSlD,asrtS,AV.dcells,D.cells?,stcV,stcS,leafOk,eqDs,eqD,packA,D.val?,↓reduceIte,reduceCtorEq,Nat.reduceAdd,Nat.reduceSub,Nat.reduceMul,List.reduceReplicate,Nat.reduceLeDiff,Nat.reduceLT,Nat.reduceBEq,Nat.reduceEqDiff,Int.reduceNeg,Int.reduceEq,Int.reduceLE,Int.reduceLT,tfb,ctz11,O11_6,x11_28,x11_29,eq_self, hki', htk, d1b]
        and_intros <;> first | omega | exact ⟨k + 1, ⟨⟨by omega, fun q hq => by rcases Nat.lt_succ_iff_lt_or_eq.1 hq with h' | rfl; exact hk2 q h'; exact fun h => d1 h.1⟩, by omega⟩, rfl⟩
      have d1b : ((l.games.getD k default).day == (l.games.getD i default).day) = true := by simpa using d1
      by_cases d2 : hasB (l.games.getD k default) (l.games.getD i default).home = true
      · have htt := htw.2 ⟨k, hki, d1, .inl d2⟩
        rw [if_pos htt] at hw
        simp (maxSteps := 4000000) +contextual (disch := first | omega | exact qdb_ok (by kernel_rfl) | exact okb_ok (by kernel_rfl)) only [bw1,bw2,bw3,bw4,bw5,bw6,bw7,bc0,bc1,bc2,bc3,bc4,bc5,bc6,bc7,bb0,setPs,AV.owns,AV.datF,AV.frz,AV.cpy,ifV,isEqB,nilV,nilX,AV.isNilS,AV.isNoRows,wk,dclo,datOf,binIs,addF,AV.isPtr,idxV,AV.isSl,AV.isSlice,AV.rows,ps,pv,extV,extS,AV.outs,AV.outF,packD,AV.dl,fieldV,fieldS,AV.cells?,AV.upr,AV.menc,AV.one,D.one,Value.oneCell',tagOf,AV.isApp,strV,strS,bolV,bolS,slcV,AV.isSlD,asrtS,AV.dcells,D.cells?,stcV,stcS,leafOk,eqDs,eqD,packA,D.val?,↓reduceIte,reduceCtorEq,Nat.reduceAdd,Nat.reduceSub,Nat.reduceMul,List.reduceReplicate,Nat.reduceLeDiff,Nat.reduceLT,Nat.reduceBEq,Nat.reduceEqDiff,Int.reduceNeg,Int.reduceEq,Int.reduceLE,Int.reduceLT,tfb,ctz11,O11_6,x11_28,x11_29,eq_self, hki', htk, d1b, d2, ← hw]
        and_intros <;> first | omega | rfl | trivial
      by_cases d3 : hasB (l.games.getD k default) (l.games.getD i default).away = true
      · have htt := htw.2 ⟨k, hki, d1, .inr d3⟩
        rw [if_pos htt] at hw
        simp (maxSteps := 4000000) +contextual (disch := first | omega | exact qdb_ok (by kernel_rfl) | exact okb_ok (by kernel_rfl)) only [bw1,bw2,bw3,bw4,bw5,bw6,bw7,bc0,bc1,bc2,bc3,bc4,bc5,bc6,bc7,bb0,setPs,AV.owns,AV.datF,AV.frz,AV.cpy,ifV,isEqB,nilV,nilX,AV.isNilS,AV.isNoRows,wk,dclo,datOf,binIs,addF,AV.isPtr,idxV,AV.isSl,AV.isSlice,AV.rows,ps,pv,extV,extS,AV.outs,AV.outF,packD,AV.dl,fieldV,fieldS,AV.cells?,AV.upr,AV.menc,AV.one,D.one,Value.oneCell',tagOf,AV.isApp,strV,strS,bolV,bolS,slcV,AV.isSlD,asrtS,AV.dcells,D.cells?,stcV,stcS,leafOk,eqDs,eqD,packA,D.val?,↓reduceIte,reduceCtorEq,Nat.reduceAdd,Nat.reduceSub,Nat.reduceMul,List.reduceReplicate,Nat.reduceLeDiff,Nat.reduceLT,Nat.reduceBEq,Nat.reduceEqDiff,Int.reduceNeg,Int.reduceEq,Int.reduceLE,Int.reduceLT,tfb,ctz11,O11_6,x11_28,x11_29,eq_self, hki', htk, d1b, d2, d3, ← hw]
        and_intros <;> first | omega | rfl | trivial
      · simp (maxSteps := 4000000) +contextual (disch := first | omega | exact qdb_ok (by kernel_rfl) | exact okb_ok (by kernel_rfl)) only [bw1,bw2,bw3,bw4,bw5,bw6,bw7,bc0,bc1,bc2,bc3,bc4,bc5,bc6,bc7,bb0,setPs,AV.owns,AV.datF,AV.frz,AV.cpy,ifV,isEqB,nilV,nilX,AV.isNilS,AV.isNoRows,wk,dclo,datOf,binIs,addF,AV.isPtr,idxV,AV.isSl,AV.isSlice,AV.rows,ps,pv,extV,extS,AV.outs,AV.outF,packD,AV.dl,fieldV,fieldS,AV.cells?,AV.upr,AV.menc,AV.one,D.one,Value.oneCell',tagOf,AV.isApp,strV,strS,bolV,bolS,slcV,AV.isSlD,asrtS,AV.dcells,D.cells?,stcV,stcS,leafOk,eqDs,eqD,packA,D.val?,↓reduceIte,reduceCtorEq,Nat.reduceAdd,Nat.reduceSub,Nat.reduceMul,List.reduceReplicate,Nat.reduceLeDiff,Nat.reduceLT,Nat.reduceBEq,Nat.reduceEqDiff,Int.reduceNeg,Int.reduceEq,Int.reduceLE,Int.reduceLT,tfb,ctz11,O11_6,x11_28,x11_29,eq_self, hki', htk, d1b, d2, d3]
        and_intros <;> first | omega | exact ⟨k + 1, ⟨⟨by omega, fun q hq => by rcases Nat.lt_succ_iff_lt_or_eq.1 hq with h' | rfl; exact hk2 q h'; exact fun h => h.2.elim d2 d3⟩, by omega⟩, rfl⟩
    have hki' : ¬ (k : Int) < T.length := by omega
    have hno : ¬ twB (l.games.getD i default) T = true := fun h => by
      obtain ⟨q, h1, h2⟩ := htw.1 h
      exact hk2 q (by omega) h2
    rw [if_neg hno] at hw
    simp (maxSteps := 4000000) +contextual (disch := first | omega | exact qdb_ok (by kernel_rfl) | exact okb_ok (by kernel_rfl)) only [bw1,bw2,bw3,bw4,bw5,bw6,bw7,bc0,bc1,bc2,bc3,bc4,bc5,bc6,bc7,bb0,setPs,AV.owns,AV.datF,AV.frz,AV.cpy,ifV,isEqB,nilV,nilX,AV.isNilS,AV.isNoRows,wk,dclo,datOf,binIs,addF,AV.isPtr,idxV,AV.isSl,AV.isSlice,AV.rows,ps,pv,extV,extS,AV.outs,AV.outF,packD,AV.dl,fieldV,fieldS,AV.cells?,AV.upr,AV.menc,AV.one,D.one,Value.oneCell',tagOf,AV.isApp,strV,strS,bolV,bolS,slcV,AV.isSlD,asrtS,AV.dcells,D.cells?,stcV,stcS,leafOk,eqDs,eqD,packA,D.val?,↓reduceIte,reduceCtorEq,Nat.reduceAdd,Nat.reduceSub,Nat.reduceMul,List.reduceReplicate,Nat.reduceLeDiff,Nat.reduceLT,Nat.reduceBEq,Nat.reduceEqDiff,Int.reduceNeg,Int.reduceEq,Int.reduceLE,Int.reduceLT,tfb,ctz11,O11_6,x11_28,x11_29,eq_self, hki']
    and_intros <;> first | omega | exact ⟨i + 1, ⟨⟨by omega, hw⟩, by omega⟩, rfl⟩ | trace_state
def ent11 (args : List AV) (K : AV → List AV → Sto → Prop) (e : List AV) (s : Sto) : Prop := ent (α := (Lea)) (fun aa => [.agg aa.c]) (fun aa => aa.far.length ≤ 1000) (fun aa => .tup [.i (lgR aa).1, .i (lgR aa).2]) args K e s
theorem ent11_ok {args : List AV} {K : AV → List AV → Sto → Prop} {Q : Kt} {e : List AV} {s : Sto} (h : ent11 args K e s) : pcall Tryd.prog 11 args K Q e s := ent_ok (fun aa h => pf11 aa h) h
theorem eq11 {l : Lea} {KK : AV → List AV → Sto → Prop} {ee : List AV} {ss : Sto} : ent11 [.d (.agg l.c)] KK ee ss = ((l.far.length ≤ 1000) ∧ KK (.d (.tup [.i (lgR l).1, .i (lgR l).2])) ee ss) := by
  unfold ent11; rw [ent_iff l (by intro b h; simpa [Prod.ext_iff, and_assoc, Int.ofNat_inj, ints_inj, gams_inj, fars_inj, gam_inj, lea_inj, Int.ofNat_inj, ints_inj, gams_inj, fars_inj, gam_inj, lea_inj] using h) rfl]; simp
end Go.Proofs.YtmajlffglplcnaaDoor
