/- A part of the proof that the last text ends: what functions of the program do, told by plain data. -/
import Derived.Test.YtmajlffglplcnaaDoorMG
set_option linter.unusedVariables false
set_option linter.unusedSimpArgs false
namespace Go.Proofs.YtmajlffglplcnaaDoor
open Go Go.E
set_option maxRecDepth 100000
set_option maxHeartbeats 16000000
theorem lea_gm {l : Lea} (h : leaOk l = true) {k : Nat} (hk : k < l.games.length) : gmOk (l.games.getD k default) l.far.length = true := by
  unfold leaOk at h
  simp only [Bool.and_eq_true] at h
  exact all_get.1 h.2.2.2.1 k hk
theorem lea_row {l : Lea} (h : leaOk l = true) {k : Nat} (hk : k < l.far.length) : rowOk l.far.length (l.far.getD k default) = true := by
  unfold leaOk at h
  simp only [Bool.and_eq_true] at h
  exact all_get.1 h.2.2.1 k hk
def O12 : Nat → Sch := fun id => if id = 7 then .one 0 (.one 1 (.one 2 (.one 3 (.one 4 (.one 5 (.one 6 (.one 7 (.one 8 (.one 9 (.one 10 (.one 11 (.one 12 (.one 13 (.done)))))))))))))) else .done
theorem O12_7 : O12 7 = .one 0 (.one 1 (.one 2 (.one 3 (.one 4 (.one 5 (.one 6 (.one 7 (.one 8 (.one 9 (.one 10 (.one 11 (.one 12 (.one 13 (.done)))))))))))))) := rfl
theorem ho12 : Tryd.f12.body.map (okO O12) = some true := by kernel_rfl
def Cf12 : Nat → List AV → (AV → List AV → Sto → Prop) → Kt → List AV → Sto → Prop := fun f args K Q e s => match f with
  | 22 => ent22 args K e s
  | _ => False
def Ct12 : CT := { f := Cf12, y := noYld, z := fun d => false }
theorem ctz12 {d : Nat} : CT.z Ct12 d = (false) := id rfl
theorem Ct12_ok : Ct12.ok Tryd.prog := ok_of_f (fun f args K Q e s h => by
  have h : Cf12 f args K Q e s := h
  unfold Cf12 at h; split at h
  · exact ent22_ok h
  · exact h.elim) (fun _ _ _ _ _ _ _ _ _ h => h)
theorem x12_22 {l : Lea} {KK : AV → List AV → Sto → Prop} {QQ : Kt} {ii : At KK} {jj : At QQ} {ee : List AV} {ss : Sto} : xC Ct12 22 [.d (.agg l.c)] KK QQ ii jj ee ss = ((l.far.length ≤ 1000) ∧ KK (.d (.b (leaOk l))) ee ss) := eq22
theorem c12 : callable Tryd.prog 12 = true := by kernel_rfl
theorem pf12 (l : Lea) (h : l.far.length ≤ 1000) : PF Tryd.prog 12 [.agg l.c] (fun zz => zz = .ret (.tup [.i (lgR l).1, .i (lgR l).2])) := by
  have hfar := h
  unfold lgR
  by_cases c0 : leaOk l = true
  case neg =>
    rw [if_neg c0]
    refine PF_nil (PF_start (O := O12) Ct12_ok hmix ho12 Tryd.func12 c12 rfl Tryd.ntmps12 Tryd.results12 ?_)
    simp (maxSteps := 4000000) +contextual (disch := first | omega | exact qdb_ok (by kernel_rfl) | exact okb_ok (by kernel_rfl)) only [bw1,bw2,bw3,bw4,bw5,bw6,bw7,bc0,bc1,bc2,bc3,bc4,bc5,bc6,bc7,bb0,setPs,AV.owns,AV.datF,AV.frz,AV.cpy,ifV,isEqB,nilV,nilX,AV.isNilS,AV.isNoRows,wk,dclo,datOf,binIs,addF,AV.isPtr,idxV,AV.isSl,AV.isSlice,AV.rows,ps,pv,extV,extS,AV.outs,AV.outF,packD,AV.dl,fieldV,fieldS,AV.cells?,AV.upr,AV.menc,AV.one,D.one,Value.oneCell',tagOf,AV.isApp,strV,strS,bolV,bolS,slcV,AV.isSlD,asrtS,AV.dcells,D.cells?,stcV,stcS,leafOk,eqDs,eqD,packA,D.val?,↓reduceIte,reduceCtorEq,Nat.reduceAdd,Nat.reduceSub,Nat.reduceMul,List.reduceReplicate,Nat.reduceLeDiff,Nat.reduceLT,Nat.reduceBEq,Nat.reduceEqDiff,Int.reduceNeg,Int.reduceEq,Int.reduceLE,Int.reduceLT,tfb,ctz12,O12_7,x12_22,c0, hfar]
  rw [if_pos c0]
  have h64 := lea_games c0
  obtain ⟨W, hW⟩ : ∃ W, W = lgN l.games l.games.length 0 := ⟨_, rfl⟩
  rw [← hW]
  refine PF_nil (PF_start (O := O12) Ct12_ok hmix ho12 Tryd.func12 c12 rfl Tryd.ntmps12 Tryd.results12 ?_)
  simp (maxSteps := 4000000) +contextual (disch := first | omega | exact qdb_ok (by kernel_rfl) | exact okb_ok (by kernel_rfl)) only [bw1,bw2,bw3,bw4,bw5,bw6,bw7,bc0,bc1,bc2,bc3,bc4,bc5,bc6,bc7,bb0,setPs,AV.owns,AV.datF,AV.frz,AV.cpy,ifV,isEqB,nilV,nilX,AV.isNilS,AV.isNoRows,wk,dclo,datOf,binIs,addF,AV.isPtr,idxV,AV.isSl,AV.isSlice,AV.rows,ps,pv,extV,extS,AV.outs,AV.outF,packD,AV.dl,fieldV,fieldS,AV.cells?,AV.upr,AV.menc,AV.one,D.one,Value.oneCell',tagOf,AV.isApp,strV,strS,bolV,bolS,slcV,AV.isSlD,asrtS,AV.dcells,D.cells?,stcV,stcS,leafOk,eqDs,eqD,packA,D.val?,↓reduceIte,reduceCtorEq,Nat.reduceAdd,Nat.reduceSub,Nat.reduceMul,List.reduceReplicate,Nat.reduceLeDiff,Nat.reduceLT,Nat.reduceBEq,Nat.reduceEqDiff,Int.reduceNeg,Int.reduceEq,Int.reduceLE,Int.reduceLT,tfb,ctz12,O12_7,x12_22,c0, hfar]
  refine loop_xu (O := O12) (tb := 0) Ct12_ok hmix (by kernel_rfl) (σ := Nat) (fun i => [(4, .i i), (5, .any), (6, .any), (7, .any)]) (fun _ => []) (fun i => i ≤ l.games.length ∧ lgN l.games (l.games.length - i) i = W) (fun i => l.games.length - i) 0 ⟨Nat.zero_le _, hW.symm⟩ ?_ ?_
  · simp (maxSteps := 4000000) +contextual (disch := first | omega | exact qdb_ok (by kernel_rfl) | exact okb_ok (by kernel_rfl)) only [bw1,bw2,bw3,bw4,bw5,bw6,bw7,bc0,bc1,bc2,bc3,bc4,bc5,bc6,bc7,bb0,setPs,AV.owns,AV.datF,AV.frz,AV.cpy,ifV,isEqB,nilV,nilX,AV.isNilS,AV.isNoRows,wk,dclo,datOf,binIs,addF,AV.isPtr,idxV,AV.isSl,AV.isSlice,AV.rows,ps,pv,extV,extS,AV.outs,AV.outF,packD,AV.dl,fieldV,fieldS,AV.cells?,AV.upr,AV.menc,AV.one,D.one,Value.oneCell',tagOf,AV.isApp,strV,strS,bolV,bolS,slcV,AV.isSlD,asrtS,AV.dcells,D.cells?,stcV,stcS,leafOk,eqDs,eqD,packA,D.val?,↓reduceIte,reduceCtorEq,Nat.reduceAdd,Nat.reduceSub,Nat.reduceMul,List.reduceReplicate,Nat.reduceLeDiff,Nat.reduceLT,Nat.reduceBEq,Nat.reduceEqDiff,Int.reduceNeg,Int.reduceEq,Int.reduceLE,Int.reduceLT,tfb,ctz12,O12_7,x12_22,eq_self]
    try rfl
  rintro i ⟨hi, hw⟩
  by_cases hlt : i < l.games.length
  case neg =>
    obtain rfl : i = l.games.length := by omega
    rw [Nat.sub_self, lgN] at hw
    simp (maxSteps := 4000000) +contextual (disch := first | omega | exact qdb_ok (by kernel_rfl) | exact okb_ok (by kernel_rfl)) only [bw1,bw2,bw3,bw4,bw5,bw6,bw7,bc0,bc1,bc2,bc3,bc4,bc5,bc6,bc7,bb0,setPs,AV.owns,AV.datF,AV.frz,AV.cpy,ifV,isEqB,nilV,nilX,AV.isNilS,AV.isNoRows,wk,dclo,datOf,binIs,addF,AV.isPtr,idxV,AV.isSl,AV.isSlice,AV.rows,ps,pv,extV,extS,AV.outs,AV.outF,packD,AV.dl,fieldV,fieldS,AV.cells?,AV.upr,AV.menc,AV.one,D.one,Value.oneCell',tagOf,AV.isApp,strV,strS,bolV,bolS,slcV,AV.isSlD,asrtS,AV.dcells,D.cells?,stcV,stcS,leafOk,eqDs,eqD,packA,D.val?,↓reduceIte,reduceCtorEq,Nat.reduceAdd,Nat.reduceSub,Nat.reduceMul,List.reduceReplicate,Nat.reduceLeDiff,Nat.reduceLT,Nat.reduceBEq,Nat.reduceEqDiff,Int.reduceNeg,Int.reduceEq,Int.reduceLE,Int.reduceLT,tfb,ctz12,O12_7,x12_22,eq_self, Int.lt_irrefl, ← hw]
  have hlt' : (i : Int) < l.games.length := by omega
  rw [show l.games.length - i = (l.games.length - (i + 1)) + 1 by omega, lgN] at hw
  by_cases z : 0 < i
  case' pos =>
    have z' : (0 : Int) < i := by omega
    have e1 : (i : Int) - 1 = ((i - 1 : Nat) : Int) := by omega
    by_cases c2 : (l.games.getD i default).day < (l.games.getD (i - 1) default).day
    case pos =>
      rw [if_pos ⟨z, c2⟩] at hw
      simp (maxSteps := 4000000) +contextual (disch := first | omega | exact qdb_ok (by kernel_rfl) | exact okb_ok (by kernel_rfl)) only [bw1,bw2,bw3,bw4,bw5,bw6,bw7,bc0,bc1,bc2,bc3,bc4,bc5,bc6,bc7,bb0,setPs,AV.owns,AV.datF,AV.frz,AV.cpy,ifV,isEqB,nilV,nilX,AV.isNilS,AV.isNoRows,wk,dclo,datOf,binIs,addF,AV.isPtr,idxV,AV.isSl,AV.isSlice,AV.rows,ps,pv,extV,extS,AV.outs,AV.outF,packD,AV.dl,fieldV,fieldS,AV.cells?,AV.upr,AV.menc,AV.one,D.one,Value.oneCell',tagOf,AV.isApp,strV,strS,bolV,bolS,slcV,AV.isSlD,asrtS,AV.dcells,D.cells?,stcV,stcS,leafOk,eqDs,eqD,packA,D.val?,↓reduceIte,reduceCtorEq,Nat.reduceAdd,Nat.reduceSub,Nat.reduceMul,List.reduceReplicate,Nat.reduceLeDiff,Nat.reduceLT,Nat.reduceBEq,Nat.reduceEqDiff,Int.reduceNeg,Int.reduceEq,Int.reduceLE,Int.reduceLT,tfb,ctz12,O12_7,x12_22,eq_self, hlt', z', e1, c2, ← hw]
      and_intros <;> first | omega | rfl | trivial
    rw [if_neg (fun h => c2 h.2)] at hw
  case' neg =>
    have z' : ¬ (0 : Int) < i := by omega
    have c2 := z'
    have e1 := z'
    rw [if_neg (fun h => z h.1)] at hw
  all_goals
    simp (maxSteps := 4000000) +contextual (disch := first | omega | exact qdb_ok (by kernel_rfl) | exact okb_ok (by kernel_rfl)) only [bw1,bw2,bw3,bw4,bw5,bw6,bw7,bc0,bc1,bc2,bc3,bc4,bc5,bc6,bc7,bb0,setPs,AV.owns,AV.datF,AV.frz,AV.cpy,ifV,isEqB,nilV,nilX,AV.isNilS,AV.isNoRows,wk,dclo,datOf,binIs,addF,AV.isPtr,idxV,AV.isSl,AV.isSlice,AV.rows,ps,pv,extV,extS,AV.outs,AV.outF,packD,AV.dl,fieldV,fieldS,AV.cells?,AV.upr,AV.menc,AV.one,D.one,Value.oneCell',tagOf,AV.isApp,strV,strS,bolV,bolS,slcV,AV.isSlD,asrtS,AV.dcells,D.cells?,stcV,stcS,leafOk,eqDs,eqD,packA,D.val?,↓reduceIte,reduceCtorEq,Nat.reduceAdd,Nat.reduceSub,Nat.reduceMul,List.reduceReplicate,Nat.reduceLeDiff,Nat.reduceLT,Nat.reduceBEq,Nat.reduceEqDiff,Int.reduceNeg,Int.reduceEq,Int.reduceLE,Int.reduceLT,tfb,ctz12,O12_7,x12_22,eq_self, hlt', z', e1, c2, Int.toNat_natCast]
    and_intros
    any_goals omega
    have htl : (l.games.take i).length = i := by rw [List.length_take]; omega
    have hta : ∀ k, k < i → (l.games.take i).getD k default = l.games.getD k default := fun k hk => by rw [at_lt (by omega), at_lt (by omega), List.getElem_take]
    have htw : twB (l.games.getD i default) (l.games.take i) = true ↔ ∃ k, k < i ∧ ((l.games.getD k default).day = (l.games.getD i default).day ∧ (hasB (l.games.getD k default) (l.games.getD i default).home = true ∨ hasB (l.games.getD k default) (l.games.getD i default).away = true)) := by
      unfold twB
      rw [List.any_eq_true]
      constructor
      · rintro ⟨h, h1, h2⟩
        obtain ⟨k, hk, rfl⟩ := List.getElem_of_mem h1
        rw [Bool.and_eq_true, Bool.or_eq_true, decide_eq_true_eq] at h2
        have := hta k (by omega)
        rw [at_lt hk] at this
        rw [this] at h2
        exact ⟨k, by omega, h2⟩
      · rintro ⟨k, hk, h2⟩
        refine ⟨(l.games.take i).getD k default, by rw [at_lt (by omega)]; exact List.getElem_mem _, ?_⟩
        rw [hta k hk, Bool.and_eq_true, Bool.or_eq_true, decide_eq_true_eq]; exact h2
    generalize l.games.take i = T at htl hta htw hw
    refine loop_xu (O := O12) (tb := 0) Ct12_ok hmix (by kernel_rfl) (σ := Nat) (fun k => [(6, .i k), (7, .any)]) (fun _ => []) (fun k => k ≤ i ∧ ∀ q, q < k → ¬ ((l.games.getD q default).day = (l.games.getD i default).day ∧ (hasB (l.games.getD q default) (l.games.getD i default).home = true ∨ hasB (l.games.getD q default) (l.games.getD i default).away = true))) (fun k => i - k) 0 ⟨Nat.zero_le _, fun q hq => by omega⟩ ?_ ?_
    · simp (maxSteps := 4000000) +contextual (disch := first | omega | exact qdb_ok (by kernel_rfl) | exact okb_ok (by kernel_rfl)) only [bw1,bw2,bw3,bw4,bw5,bw6,bw7,bc0,bc1,bc2,bc3,bc4,bc5,bc6,bc7,bb0,setPs,AV.owns,AV.datF,AV.frz,AV.cpy,ifV,isEqB,nilV,nilX,AV.isNilS,AV.isNoRows,wk,dclo,datOf,binIs,addF,AV.isPtr,idxV,AV.isSl,AV.isSlice,AV.rows,ps,pv,extV,extS,AV.outs,AV.outF,packD,AV.dl,fieldV,fieldS,AV.cells?,AV.upr,AV.menc,AV.one,D.one,Value.oneCell',tagOf,AV.isApp,strV,strS,bolV,bolS,slcV,AV.isSlD,asrtS,AV.dcells,D.cells?,stcV,stcS,leafOk,eqDs,eqD,packA,D.val?,↓reduceIte,reduceCtorEq,Nat.reduceAdd,Nat.reduceSub,Nat.reduceMul,List.reduceReplicate,Nat.reduceLeDiff,Nat.reduceLT,Nat.reduceBEq,Nat.reduceEqDiff,Int.reduceNeg,Int.reduceEq,Int.reduceLE,Int.reduceLT,tfb,ctz12,O12_7,x12_22,eq_self]
      try rfl
    rintro k ⟨hk1, hk2⟩
    by_cases hki : k < i
    · have hki' : (k : Int) < i := by omega
      have hkl' : (k : Int) < l.games.length := by omega
      by_cases d1 : (l.games.getD k default).day = (l.games.getD i default).day
      case neg =>
        have d1b : ((l.games.getD k default).day == (l.games.getD i default).day) = false := by simpa using d1
        simp (maxSteps := 4000000) +contextual (disch := first | omega | exact qdb_ok (by kernel_rfl) | exact okb_ok (by kernel_rfl)) only [bw1,bw2,bw3,bw4,bw5,bw6,bw7,bc0,bc1,bc2,bc3,bc4,bc5,bc6,bc7,bb0,setPs,AV.owns,AV.datF,AV.frz,AV.cpy,ifV,isEqB,nilV,nilX,AV.isNilS,AV.isNoRows,wk,dclo,datOf,binIs,addF,AV.isPtr,idxV,AV.isSl,AV.isSlice,AV.rows,ps,pv,extV,extS,AV.outs,AV.outF,packD,AV.dl,fieldV,fieldS,AV.cells?,AV.upr,AV.menc,AV.one,D.one,Value.oneCell',tagOf,AV.isApp,strV,strS,bolV,bolS,slcV,AV.isSlD,asrtS,AV.dcells,D.cells?,stcV,stcS,leafOk,eqDs,eqD,packA,D.val?,↓reduceIte,reduceCtorEq,Nat.reduceAdd,Nat.reduceSub,Nat.reduceMul,List.reduceReplicate,Nat.reduceLeDiff,Nat.reduceLT,Nat.reduceBEq,Nat.reduceEqDiff,Int.reduceNeg,Int.reduceEq,Int.reduceLE,Int.reduceLT,tfb,ctz12,O12_7,x12_22,eq_self, hki', hkl', d1b]
        and_intros <;> first | omega | exact ⟨k + 1, ⟨⟨by omega, fun q hq => by rcases Nat.lt_succ_iff_lt_or_eq.1 hq with h' | rfl; exact hk2 q h'; exact fun h => d1 h.1⟩, by omega⟩, rfl⟩
      have d1b : ((l.games.getD k default).day == (l.games.getD i default).day) = true := by simpa using d1
      have four : ∀ {P : Prop}, ((hasB (l.games.getD k default) (l.games.getD i default).home = true ∨ hasB (l.games.getD k default) (l.games.getD i default).away = true) → P) → (((l.games.getD k default).home == (l.games.getD i default).home) = false → ((l.games.getD k default).home == (l.games.getD i default).away) = false → ((l.games.getD k default).away == (l.games.getD i default).home) = false → ((l.games.getD k default).away == (l.games.getD i default).away) = false → P) → P := fun h1 h2 => by
        by_cases h : hasB (l.games.getD k default) (l.games.getD i default).home = true ∨ hasB (l.games.getD k default) (l.games.getD i default).away = true
        · exact h1 h
        · generalize l.games.getD k default = x at *
          generalize l.games.getD i default = y at *
          simp only [hasB, Bool.or_eq_true, decide_eq_true_eq, not_or] at h
          exact h2 (by simpa using h.1.1) (by simpa using h.2.1) (by simpa using h.1.2) (by simpa using h.2.2)
      refine four (fun dd => ?_) (fun e1 e2 e3 e4 => ?_)
      · have htt := htw.2 ⟨k, hki, d1, dd⟩
        rw [if_pos htt] at hw
        by_cases f1 : ((l.games.getD k default).home == (l.games.getD i default).home) = true
        · simp (maxSteps := 4000000) +contextual (disch := first | omega | exact qdb_ok (by kernel_rfl) | exact okb_ok (by kernel_rfl)) only [bw1,bw2,bw3,bw4,bw5,bw6,bw7,bc0,bc1,bc2,bc3,bc4,bc5,bc6,bc7,bb0,setPs,AV.owns,AV.datF,AV.frz,AV.cpy,ifV,isEqB,nilV,nilX,AV.isNilS,AV.isNoRows,wk,dclo,datOf,binIs,addF,AV.isPtr,idxV,AV.isSl,AV.isSlice,AV.rows,ps,pv,extV,extS,AV.outs,AV.outF,packD,AV.dl,fieldV,fieldS,AV.cells?,AV.upr,AV.menc,AV.one,D.one,Value.oneCell',tagOf,AV.isApp,strV,strS,bolV,bolS,slcV,AV.isSlD,asrtS,AV.dcells,D.cells?,stcV,stcS,leafOk,eqDs,eqD,packA,D.val?,↓reduceIte,reduceCtorEq,Nat.reduceAdd,Nat.reduceSub,Nat.reduceMul,List.reduceReplicate,Nat.reduceLeDiff,Nat.reduceLT,Nat.reduceBEq,Nat.reduceEqDiff,Int.reduceNeg,Int.reduceEq,Int.reduceLE,Int.reduceLT,tfb,ctz12,O12_7,x12_22,eq_self, hki', hkl', d1b, f1, ← hw]
          try (and_intros <;> first | omega | rfl | trivial)
        by_cases f2 : ((l.games.getD k default).home == (l.games.getD i default).away) = true
        · simp (maxSteps := 4000000) +contextual (disch := first | omega | exact qdb_ok (by kernel_rfl) | exact okb_ok (by kernel_rfl)) only [bw1,bw2,bw3,bw4,bw5,bw6,bw7,bc0,bc1,bc2,bc3,bc4,bc5,bc6,bc7,bb0,setPs,AV.owns,AV.datF,AV.frz,AV.cpy,ifV,isEqB,nilV,nilX,AV.isNilS,AV.isNoRows,wk,dclo,datOf,binIs,addF,AV.isPtr,idxV,AV.isSl,AV.isSlice,AV.rows,ps,pv,extV,extS,AV.outs,AV.outF,packD,AV.dl,fieldV,fieldS,AV.cells?,AV.upr,AV.menc,AV.one,D.one,Value.oneCell',tagOf,AV.isApp,strV,strS,bolV,bolS,slcV,AV.isSlD,asrtS,AV.dcells,D.cells?,stcV,stcS,leafOk,eqDs,eqD,packA,D.val?,↓reduceIte,reduceCtorEq,Nat.reduceAdd,Nat.reduceSub,Nat.reduceMul,List.reduceReplicate,Nat.reduceLeDiff,Nat.reduceLT,Nat.reduceBEq,Nat.reduceEqDiff,Int.reduceNeg,Int.reduceEq,Int.reduceLE,Int.reduceLT,tfb,ctz12,O12_7,x12_22,eq_self, hki', hkl', d1b, f1, f2, ← hw]
          try (and_intros <;> first | omega | rfl | trivial)
        by_cases f3 : ((l.games.getD k default).away == (l.games.getD i default).home) = true
        · simp (maxSteps := 4000000) +contextual (disch := first | omega | exact qdb_ok (by kernel_rfl) | exact okb_ok (by kernel_rfl)) only [bw1,bw2,bw3,bw4,bw5,bw6,bw7,bc0,bc1,bc2,bc3,bc4,bc5,bc6,bc7,bb0,setPs,AV.owns,AV.datF,AV.frz,AV.cpy,ifV,isEqB,nilV,nilX,AV.isNilS,AV.isNoRows,wk,dclo,datOf,binIs,addF,AV.isPtr,idxV,AV.isSl,AV.isSlice,AV.rows,ps,pv,extV,extS,AV.outs,AV.outF,packD,AV.dl,fieldV,fieldS,AV.cells?,AV.upr,AV.menc,AV.one,D.one,Value.oneCell',tagOf,AV.isApp,strV,strS,bolV,bolS,slcV,AV.isSlD,asrtS,AV.dcells,D.cells?,stcV,stcS,leafOk,eqDs,eqD,packA,D.val?,↓reduceIte,reduceCtorEq,Nat.reduceAdd,Nat.reduceSub,Nat.reduceMul,List.reduceReplicate,Nat.reduceLeDiff,Nat.reduceLT,Nat.reduceBEq,Nat.reduceEqDiff,Int.reduceNeg,Int.reduceEq,Int.reduceLE,Int.reduceLT,tfb,ctz12,O12_7,x12_22,eq_self, hki', hkl', d1b, f1, f2, f3, ← hw]
          try (and_intros <;> first | omega | rfl | trivial)
        have f4 : ((l.games.getD k default).away == (l.games.getD i default).away) = true := by
          generalize l.games.getD k default = x at *
          generalize l.games.getD i default = y at *
          simp only [hasB, Bool.or_eq_true, decide_eq_true_eq] at dd
          simp at f1 f2 f3 ⊢
          rcases dd with (h | h) | (h | h)
          · exact absurd h f1
          · exact absurd h f3
          · exact absurd h f2
          · exact h
        simp (maxSteps := 4000000) +contextual (disch := first | omega | exact qdb_ok (by kernel_rfl) | exact okb_ok (by kernel_rfl)) only [bw1,bw2,bw3,bw4,bw5,bw6,bw7,bc0,bc1,bc2,bc3,bc4,bc5,bc6,bc7,bb0,setPs,AV.owns,AV.datF,AV.frz,AV.cpy,ifV,isEqB,nilV,nilX,AV.isNilS,AV.isNoRows,wk,dclo,datOf,binIs,addF,AV.isPtr,idxV,AV.isSl,AV.isSlice,AV.rows,ps,pv,extV,extS,AV.outs,AV.outF,packD,AV.dl,fieldV,fieldS,AV.cells?,AV.upr,AV.menc,AV.one,D.one,Value.oneCell',tagOf,AV.isApp,strV,strS,bolV,bolS,slcV,AV.isSlD,asrtS,AV.dcells,D.cells?,stcV,stcS,leafOk,eqDs,eqD,packA,D.val?,↓reduceIte,reduceCtorEq,Nat.reduceAdd,Nat.reduceSub,Nat.reduceMul,List.reduceReplicate,Nat.reduceLeDiff,Nat.reduceLT,Nat.reduceBEq,Nat.reduceEqDiff,Int.reduceNeg,Int.reduceEq,Int.reduceLE,Int.reduceLT,tfb,ctz12,O12_7,x12_22,eq_self, hki', hkl', d1b, f1, f2, f3, f4, ← hw]
        try (and_intros <;> first | omega | rfl | trivial)
      · have hno : ¬ (hasB (l.games.getD k default) (l.games.getD i default).home = true ∨ hasB (l.games.getD k default) (l.games.getD i default).away = true) := by
          generalize l.games.getD k default = x at *
          generalize l.games.getD i default = y at *
          simp at e1 e2 e3 e4
          simp [hasB, e1, e2, e3, e4]
        simp (maxSteps := 4000000) +contextual (disch := first | omega | exact qdb_ok (by kernel_rfl) | exact okb_ok (by kernel_rfl)) only [bw1,bw2,bw3,bw4,bw5,bw6,bw7,bc0,bc1,bc2,bc3,bc4,bc5,bc6,bc7,bb0,setPs,AV.owns,AV.datF,AV.frz,AV.cpy,ifV,isEqB,nilV,nilX,AV.isNilS,AV.isNoRows,wk,dclo,datOf,binIs,addF,AV.isPtr,idxV,AV.isSl,AV.isSlice,AV.rows,ps,pv,extV,extS,AV.outs,AV.outF,packD,AV.dl,fieldV,fieldS,AV.cells?,AV.upr,AV.menc,AV.one,D.one,Value.oneCell',tagOf,AV.isApp,strV,strS,bolV,bolS,slcV,AV.isSlD,asrtS,AV.dcells,D.cells?,stcV,stcS,leafOk,eqDs,eqD,packA,D.val?,↓reduceIte,reduceCtorEq,Nat.reduceAdd,Nat.reduceSub,Nat.reduceMul,List.reduceReplicate,Nat.reduceLeDiff,Nat.reduceLT,Nat.reduceBEq,Nat.reduceEqDiff,Int.reduceNeg,Int.reduceEq,Int.reduceLE,Int.reduceLT,tfb,ctz12,O12_7,x12_22,eq_self, hki', hkl', d1b, e1, e2, e3, e4]
        and_intros <;> first | omega | exact ⟨k + 1, ⟨⟨by omega, fun q hq => by rcases Nat.lt_succ_iff_lt_or_eq.1 hq with h' | rfl; exact hk2 q h'; exact fun h => hno h.2⟩, by omega⟩, rfl⟩
    have hki' : ¬ (k : Int) < i := by omega
    have hno : ¬ twB (l.games.getD i default) T = true := fun h => by
      obtain ⟨q, h1, h2⟩ := htw.1 h
      exact hk2 q (by omega) h2
    rw [if_neg hno] at hw
    simp (maxSteps := 4000000) +contextual (disch := first | omega | exact qdb_ok (by kernel_rfl) | exact okb_ok (by kernel_rfl)) only [bw1,bw2,bw3,bw4,bw5,bw6,bw7,bc0,bc1,bc2,bc3,bc4,bc5,bc6,bc7,bb0,setPs,AV.owns,AV.datF,AV.frz,AV.cpy,ifV,isEqB,nilV,nilX,AV.isNilS,AV.isNoRows,wk,dclo,datOf,binIs,addF,AV.isPtr,idxV,AV.isSl,AV.isSlice,AV.rows,ps,pv,extV,extS,AV.outs,AV.outF,packD,AV.dl,fieldV,fieldS,AV.cells?,AV.upr,AV.menc,AV.one,D.one,Value.oneCell',tagOf,AV.isApp,strV,strS,bolV,bolS,slcV,AV.isSlD,asrtS,AV.dcells,D.cells?,stcV,stcS,leafOk,eqDs,eqD,packA,D.val?,↓reduceIte,reduceCtorEq,Nat.reduceAdd,Nat.reduceSub,Nat.reduceMul,List.reduceReplicate,Nat.reduceLeDiff,Nat.reduceLT,Nat.reduceBEq,Nat.reduceEqDiff,Int.reduceNeg,Int.reduceEq,Int.reduceLE,Int.reduceLT,tfb,ctz12,O12_7,x12_22,eq_self, hki']
    and_intros <;> first | omega | exact ⟨i + 1, ⟨⟨by omega, hw⟩, by omega⟩, rfl⟩
def fr (far : List (List Int)) (a b : Int) : Int := (far.getD a.toNat default).getD b.toNat default
def trG (far : List (List Int)) (t : Int) (s : Int × Int) (g : Gam) : Int × Int := if hasB g t = true then (s.1 + fr far s.2 g.home, g.home) else s
def trN (l : Lea) (t : Int) (k : Nat) : Int × Int := (l.games.take k).foldl (trG l.far t) (0, t)
def trF (l : Lea) (t : Int) : Int := (trN l t l.games.length).1 + fr l.far (trN l t l.games.length).2 t
def trR (l : Lea) (t : Int) : Int × Int := if leaOk l = true then (if inB t 0 ((l.far.length : Int) - 1) = true then (trF l t, 0) else (0, 2)) else (0, 1)
theorem trN_zero {l : Lea} {t : Int} : trN l t 0 = (0, t) := by simp [trN]
theorem trN_succ {l : Lea} {t : Int} {k : Nat} (h : k < l.games.length) : trN l t (k + 1) = trG l.far t (trN l t k) (l.games.getD k default) := by
  unfold trN; rw [take_succ h, List.foldl_append]; rfl
theorem fr_b {l : Lea} (h : leaOk l = true) {a b : Int} (ha : 0 ≤ a ∧ a < l.far.length) (hb : 0 ≤ b ∧ b < l.far.length) : (0 ≤ fr l.far a b ∧ fr l.far a b ≤ 100000) ∧ (l.far.getD a.toNat default).length = l.far.length := by
  have h1 := lea_row h (k := a.toNat) (by omega)
  unfold rowOk at h1
  rw [Bool.and_eq_true, decide_eq_true_eq] at h1
  have h2 := all_get.1 h1.2 b.toNat (by omega)
  rw [inB_iff] at h2
  exact ⟨h2, by omega⟩
theorem trN_b {l : Lea} (h : leaOk l = true) {t : Int} (ht : 0 ≤ t ∧ t < l.far.length) : ∀ k : Nat, k ≤ l.games.length → (0 ≤ (trN l t k).1 ∧ (trN l t k).1 ≤ 100000 * k) ∧ (0 ≤ (trN l t k).2 ∧ (trN l t k).2 < l.far.length)
  | 0, _ => by rw [trN_zero]; exact ⟨⟨by simp, by simp⟩, ht⟩
  | k + 1, hk => by
    rw [trN_succ (by omega)]
    have ih := trN_b h ht k (by omega)
    have hg := gm_teams (lea_gm h (k := k) (by omega))
    have hf := (fr_b h ih.2 (b := (l.games.getD k default).home) (by omega)).1
    unfold trG
    split
    · dsimp only; omega
    · omega
def ent12 (args : List AV) (K : AV → List AV → Sto → Prop) (e : List AV) (s : Sto) : Prop := ent (α := (Lea)) (fun aa => [.agg aa.c]) (fun aa => aa.far.length ≤ 1000) (fun aa => .tup [.i (lgR aa).1, .i (lgR aa).2]) args K e s
theorem ent12_ok {args : List AV} {K : AV → List AV → Sto → Prop} {Q : Kt} {e : List AV} {s : Sto} (h : ent12 args K e s) : pcall Tryd.prog 12 args K Q e s := ent_ok (fun aa h => pf12 aa h) h
theorem eq12 {l : Lea} {KK : AV → List AV → Sto → Prop} {ee : List AV} {ss : Sto} : ent12 [.d (.agg l.c)] KK ee ss = ((l.far.length ≤ 1000) ∧ KK (.d (.tup [.i (lgR l).1, .i (lgR l).2])) ee ss) := by
  unfold ent12; rw [ent_iff l (by intro b h; simpa [Prod.ext_iff, and_assoc, Int.ofNat_inj, ints_inj, gams_inj, fars_inj, gam_inj, lea_inj, Int.ofNat_inj, ints_inj, gams_inj, fars_inj, gam_inj, lea_inj, stds_inj, std_inj] using h) rfl]; simp
def O14 : Nat → Sch := fun id => if id = 11 then .one 0 (.one 1 (.one 2 (.one 3 (.one 4 (.one 5 (.one 6 (.one 7 (.one 8 (.one 9 (.one 10 (.one 11 (.done)))))))))))) else .done
theorem O14_11 : O14 11 = .one 0 (.one 1 (.one 2 (.one 3 (.one 4 (.one 5 (.one 6 (.one 7 (.one 8 (.one 9 (.one 10 (.one 11 (.done)))))))))))) := rfl
theorem ho14 : Tryd.f14.body.map (okO O14) = some true := by kernel_rfl
def Cf14 : Nat → List AV → (AV → List AV → Sto → Prop) → Kt → List AV → Sto → Prop := fun f args K Q e s => match f with
  | 22 => ent22 args K e s
  | 32 => ent32 args K e s
  | _ => False
def Ct14 : CT := { f := Cf14, y := noYld, z := fun d => false }
theorem ctz14 {d : Nat} : CT.z Ct14 d = (false) := id rfl
theorem Ct14_ok : Ct14.ok Tryd.prog := ok_of_f (fun f args K Q e s h => by
  have h : Cf14 f args K Q e s := h
  unfold Cf14 at h; split at h
  · exact ent22_ok h
  · exact ent32_ok h
  · exact h.elim) (fun _ _ _ _ _ _ _ _ _ h => h)
theorem x14_22 {l : Lea} {KK : AV → List AV → Sto → Prop} {QQ : Kt} {ii : At KK} {jj : At QQ} {ee : List AV} {ss : Sto} : xC Ct14 22 [.d (.agg l.c)] KK QQ ii jj ee ss = ((l.far.length ≤ 1000) ∧ KK (.d (.b (leaOk l))) ee ss) := eq22
theorem x14_32 {n : Int} {lo : Int} {hi : Int} {KK : AV → List AV → Sto → Prop} {QQ : Kt} {ii : At KK} {jj : At QQ} {ee : List AV} {ss : Sto} : xC Ct14 32 [.d (.i n), .d (.i lo), .d (.i hi)] KK QQ ii jj ee ss = (KK (.d (.b (inB n lo hi))) ee ss) := eq32
theorem c14 : callable Tryd.prog 14 = true := by kernel_rfl
theorem pf14 (l : Lea) (t : Int) (h : l.far.length ≤ 1000) : PF Tryd.prog 14 [.agg l.c, .i t] (fun zz => zz = .ret (.tup [.i (trR l t).1, .i (trR l t).2])) := by
  have hfar := h
  unfold trR
  by_cases c0 : leaOk l = true
  case neg =>
    rw [if_neg c0]
    refine PF_nil (PF_start (O := O14) Ct14_ok hmix ho14 Tryd.func14 c14 rfl Tryd.ntmps14 Tryd.results14 ?_)
    simp (maxSteps := 4000000) +contextual (disch := first | omega | exact qdb_ok (by kernel_rfl) | exact okb_ok (by kernel_rfl)) only [bw1,bw2,bw3,bw4,bw5,bw6,bw7,bc0,bc1,bc2,bc3,bc4,bc5,bc6,bc7,bb0,setPs,AV.owns,AV.datF,AV.frz,AV.cpy,ifV,isEqB,nilV,nilX,AV.isNilS,AV.isNoRows,wk,dclo,datOf,binIs,addF,AV.isPtr,idxV,AV.isSl,AV.isSlice,AV.rows,ps,pv,extV,extS,AV.outs,AV.outF,packD,AV.dl,fieldV,fieldS,AV.cells?,AV.upr,AV.menc,AV.one,D.one,Value.oneCell',tagOf,AV.isApp,strV,strS,bolV,bolS,slcV,AV.isSlD,asrtS,AV.dcells,D.cells?,stcV,stcS,leafOk,eqDs,eqD,packA,D.val?,↓reduceIte,reduceCtorEq,Nat.reduceAdd,Nat.reduceSub,Nat.reduceMul,List.reduceReplicate,Nat.reduceLeDiff,Nat.reduceLT,Nat.reduceBEq,Nat.reduceEqDiff,Int.reduceNeg,Int.reduceEq,Int.reduceLE,Int.reduceLT,tfb,ctz14,O14_11,x14_22,x14_32,c0, hfar]
  rw [if_pos c0]
  have h64 := lea_games c0
  by_cases c1 : inB t 0 ((l.far.length : Int) - 1) = true
  case neg =>
    rw [if_neg c1]
    refine PF_nil (PF_start (O := O14) Ct14_ok hmix ho14 Tryd.func14 c14 rfl Tryd.ntmps14 Tryd.results14 ?_)
    simp (maxSteps := 4000000) +contextual (disch := first | omega | exact qdb_ok (by kernel_rfl) | exact okb_ok (by kernel_rfl)) only [bw1,bw2,bw3,bw4,bw5,bw6,bw7,bc0,bc1,bc2,bc3,bc4,bc5,bc6,bc7,bb0,setPs,AV.owns,AV.datF,AV.frz,AV.cpy,ifV,isEqB,nilV,nilX,AV.isNilS,AV.isNoRows,wk,dclo,datOf,binIs,addF,AV.isPtr,idxV,AV.isSl,AV.isSlice,AV.rows,ps,pv,extV,extS,AV.outs,AV.outF,packD,AV.dl,fieldV,fieldS,AV.cells?,AV.upr,AV.menc,AV.one,D.one,Value.oneCell',tagOf,AV.isApp,strV,strS,bolV,bolS,slcV,AV.isSlD,asrtS,AV.dcells,D.cells?,stcV,stcS,leafOk,eqDs,eqD,packA,D.val?,↓reduceIte,reduceCtorEq,Nat.reduceAdd,Nat.reduceSub,Nat.reduceMul,List.reduceReplicate,Nat.reduceLeDiff,Nat.reduceLT,Nat.reduceBEq,Nat.reduceEqDiff,Int.reduceNeg,Int.reduceEq,Int.reduceLE,Int.reduceLT,tfb,ctz14,O14_11,x14_22,x14_32,c0, c1, hfar]
  rw [if_pos c1]
  have ht := inB_iff.1 c1
  have ht' : 0 ≤ t ∧ t < l.far.length := by omega
  refine PF_nil (PF_start (O := O14) Ct14_ok hmix ho14 Tryd.func14 c14 rfl Tryd.ntmps14 Tryd.results14 ?_)
  simp (maxSteps := 4000000) +contextual (disch := first | omega | exact qdb_ok (by kernel_rfl) | exact okb_ok (by kernel_rfl)) only [bw1,bw2,bw3,bw4,bw5,bw6,bw7,bc0,bc1,bc2,bc3,bc4,bc5,bc6,bc7,bb0,setPs,AV.owns,AV.datF,AV.frz,AV.cpy,ifV,isEqB,nilV,nilX,AV.isNilS,AV.isNoRows,wk,dclo,datOf,binIs,addF,AV.isPtr,idxV,AV.isSl,AV.isSlice,AV.rows,ps,pv,extV,extS,AV.outs,AV.outF,packD,AV.dl,fieldV,fieldS,AV.cells?,AV.upr,AV.menc,AV.one,D.one,Value.oneCell',tagOf,AV.isApp,strV,strS,bolV,bolS,slcV,AV.isSlD,asrtS,AV.dcells,D.cells?,stcV,stcS,leafOk,eqDs,eqD,packA,D.val?,↓reduceIte,reduceCtorEq,Nat.reduceAdd,Nat.reduceSub,Nat.reduceMul,List.reduceReplicate,Nat.reduceLeDiff,Nat.reduceLT,Nat.reduceBEq,Nat.reduceEqDiff,Int.reduceNeg,Int.reduceEq,Int.reduceLE,Int.reduceLT,tfb,ctz14,O14_11,x14_22,x14_32,c0, c1, hfar]
  refine loop_xu (O := O14) (tb := 0) Ct14_ok hmix (by kernel_rfl) (σ := Nat) (fun k => [(6, .i (trN l t k).1), (7, .i (trN l t k).2), (8, .i k), (9, .any)]) (fun _ => []) (fun k => k ≤ l.games.length) (fun k => l.games.length - k) 0 (Nat.zero_le _) ?_ ?_
  · have hz : trN l t 0 = (0, t) := trN_zero
    simp (maxSteps := 4000000) +contextual (disch := first | omega | exact qdb_ok (by kernel_rfl) | exact okb_ok (by kernel_rfl)) only [bw1,bw2,bw3,bw4,bw5,bw6,bw7,bc0,bc1,bc2,bc3,bc4,bc5,bc6,bc7,bb0,setPs,AV.owns,AV.datF,AV.frz,AV.cpy,ifV,isEqB,nilV,nilX,AV.isNilS,AV.isNoRows,wk,dclo,datOf,binIs,addF,AV.isPtr,idxV,AV.isSl,AV.isSlice,AV.rows,ps,pv,extV,extS,AV.outs,AV.outF,packD,AV.dl,fieldV,fieldS,AV.cells?,AV.upr,AV.menc,AV.one,D.one,Value.oneCell',tagOf,AV.isApp,strV,strS,bolV,bolS,slcV,AV.isSlD,asrtS,AV.dcells,D.cells?,stcV,stcS,leafOk,eqDs,eqD,packA,D.val?,↓reduceIte,reduceCtorEq,Nat.reduceAdd,Nat.reduceSub,Nat.reduceMul,List.reduceReplicate,Nat.reduceLeDiff,Nat.reduceLT,Nat.reduceBEq,Nat.reduceEqDiff,Int.reduceNeg,Int.reduceEq,Int.reduceLE,Int.reduceLT,tfb,ctz14,O14_11,x14_22,x14_32,eq_self, hz]
    try rfl
  rintro k hk
  have hb := trN_b c0 ht' k hk
  by_cases hlt : k < l.games.length
  case neg =>
    obtain rfl : k = l.games.length := by omega
    have hf := fr_b c0 hb.2 ht'
    have hl2 : (trN l t l.games.length).2 < l.far.length := hb.2.2
    have hl3 : t < ((l.far.getD (trN l t l.games.length).2.toNat default).length : Int) := by omega
    unfold fr at hf
    simp (maxSteps := 4000000) +contextual (disch := first | omega | exact qdb_ok (by kernel_rfl) | exact okb_ok (by kernel_rfl)) only [bw1,bw2,bw3,bw4,bw5,bw6,bw7,bc0,bc1,bc2,bc3,bc4,bc5,bc6,bc7,bb0,setPs,AV.owns,AV.datF,AV.frz,AV.cpy,ifV,isEqB,nilV,nilX,AV.isNilS,AV.isNoRows,wk,dclo,datOf,binIs,addF,AV.isPtr,idxV,AV.isSl,AV.isSlice,AV.rows,ps,pv,extV,extS,AV.outs,AV.outF,packD,AV.dl,fieldV,fieldS,AV.cells?,AV.upr,AV.menc,AV.one,D.one,Value.oneCell',tagOf,AV.isApp,strV,strS,bolV,bolS,slcV,AV.isSlD,asrtS,AV.dcells,D.cells?,stcV,stcS,leafOk,eqDs,eqD,packA,D.val?,↓reduceIte,reduceCtorEq,Nat.reduceAdd,Nat.reduceSub,Nat.reduceMul,List.reduceReplicate,Nat.reduceLeDiff,Nat.reduceLT,Nat.reduceBEq,Nat.reduceEqDiff,Int.reduceNeg,Int.reduceEq,Int.reduceLE,Int.reduceLT,tfb,ctz14,O14_11,x14_22,x14_32,eq_self, Int.lt_irrefl, hl2, hl3]
    repeat (refine And.intro (by omega) ?_)
    rfl
  have hlt' : (k : Int) < l.games.length := by omega
  have hs := trN_succ (t := t) hlt
  have hg := gm_teams (lea_gm c0 hlt)
  have hf := fr_b c0 hb.2 (b := (l.games.getD k default).home) (by omega)
  have hl2 : (trN l t k).2 < l.far.length := hb.2.2
  have hl3 : (l.games.getD k default).home < ((l.far.getD (trN l t k).2.toNat default).length : Int) := by omega
  by_cases d1 : hasB (l.games.getD k default) t = true
  case neg =>
    unfold trG at hs
    rw [if_neg d1] at hs
    simp only [hasB, Bool.or_eq_true, decide_eq_true_eq, not_or] at d1
    have d1b : ((l.games.getD k default).home == t) = false := by simpa using d1.1
    have d2b : ((l.games.getD k default).away == t) = false := by simpa using d1.2
    simp (maxSteps := 4000000) +contextual (disch := first | omega | exact qdb_ok (by kernel_rfl) | exact okb_ok (by kernel_rfl)) only [bw1,bw2,bw3,bw4,bw5,bw6,bw7,bc0,bc1,bc2,bc3,bc4,bc5,bc6,bc7,bb0,setPs,AV.owns,AV.datF,AV.frz,AV.cpy,ifV,isEqB,nilV,nilX,AV.isNilS,AV.isNoRows,wk,dclo,datOf,binIs,addF,AV.isPtr,idxV,AV.isSl,AV.isSlice,AV.rows,ps,pv,extV,extS,AV.outs,AV.outF,packD,AV.dl,fieldV,fieldS,AV.cells?,AV.upr,AV.menc,AV.one,D.one,Value.oneCell',tagOf,AV.isApp,strV,strS,bolV,bolS,slcV,AV.isSlD,asrtS,AV.dcells,D.cells?,stcV,stcS,leafOk,eqDs,eqD,packA,D.val?,↓reduceIte,reduceCtorEq,Nat.reduceAdd,Nat.reduceSub,Nat.reduceMul,List.reduceReplicate,Nat.reduceLeDiff,Nat.reduceLT,Nat.reduceBEq,Nat.reduceEqDiff,Int.reduceNeg,Int.reduceEq,Int.reduceLE,Int.reduceLT,tfb,ctz14,O14_11,x14_22,x14_32,eq_self, hlt', d1b, d2b]
    repeat (refine And.intro (by omega) ?_)
    exact ⟨k + 1, ⟨by omega, by omega⟩, by rw [hs], by rw [hs], rfl⟩
  unfold trG at hs
  rw [if_pos d1] at hs
  unfold fr at hs hf
  by_cases d2 : (l.games.getD k default).home = t
  · have d2b : ((l.games.getD k default).home == t) = true := by simpa using d2
    simp (maxSteps := 4000000) +contextual (disch := first | omega | exact qdb_ok (by kernel_rfl) | exact okb_ok (by kernel_rfl)) only [bw1,bw2,bw3,bw4,bw5,bw6,bw7,bc0,bc1,bc2,bc3,bc4,bc5,bc6,bc7,bb0,setPs,AV.owns,AV.datF,AV.frz,AV.cpy,ifV,isEqB,nilV,nilX,AV.isNilS,AV.isNoRows,wk,dclo,datOf,binIs,addF,AV.isPtr,idxV,AV.isSl,AV.isSlice,AV.rows,ps,pv,extV,extS,AV.outs,AV.outF,packD,AV.dl,fieldV,fieldS,AV.cells?,AV.upr,AV.menc,AV.one,D.one,Value.oneCell',tagOf,AV.isApp,strV,strS,bolV,bolS,slcV,AV.isSlD,asrtS,AV.dcells,D.cells?,stcV,stcS,leafOk,eqDs,eqD,packA,D.val?,↓reduceIte,reduceCtorEq,Nat.reduceAdd,Nat.reduceSub,Nat.reduceMul,List.reduceReplicate,Nat.reduceLeDiff,Nat.reduceLT,Nat.reduceBEq,Nat.reduceEqDiff,Int.reduceNeg,Int.reduceEq,Int.reduceLE,Int.reduceLT,tfb,ctz14,O14_11,x14_22,x14_32,eq_self, hlt', d2b, hl2, hl3]
    repeat (refine And.intro (by omega) ?_)
    exact ⟨k + 1, ⟨by omega, by omega⟩, by rw [hs], by rw [hs], rfl⟩
  · have d2b : ((l.games.getD k default).home == t) = false := by simpa using d2
    have d3b : ((l.games.getD k default).away == t) = true := by
      simp only [hasB, decide_eq_false d2, Bool.false_or, decide_eq_true_eq] at d1
      simpa using d1
    simp (maxSteps := 4000000) +contextual (disch := first | omega | exact qdb_ok (by kernel_rfl) | exact okb_ok (by kernel_rfl)) only [bw1,bw2,bw3,bw4,bw5,bw6,bw7,bc0,bc1,bc2,bc3,bc4,bc5,bc6,bc7,bb0,setPs,AV.owns,AV.datF,AV.frz,AV.cpy,ifV,isEqB,nilV,nilX,AV.isNilS,AV.isNoRows,wk,dclo,datOf,binIs,addF,AV.isPtr,idxV,AV.isSl,AV.isSlice,AV.rows,ps,pv,extV,extS,AV.outs,AV.outF,packD,AV.dl,fieldV,fieldS,AV.cells?,AV.upr,AV.menc,AV.one,D.one,Value.oneCell',tagOf,AV.isApp,strV,strS,bolV,bolS,slcV,AV.isSlD,asrtS,AV.dcells,D.cells?,stcV,stcS,leafOk,eqDs,eqD,packA,D.val?,↓reduceIte,reduceCtorEq,Nat.reduceAdd,Nat.reduceSub,Nat.reduceMul,List.reduceReplicate,Nat.reduceLeDiff,Nat.reduceLT,Nat.reduceBEq,Nat.reduceEqDiff,Int.reduceNeg,Int.reduceEq,Int.reduceLE,Int.reduceLT,tfb,ctz14,O14_11,x14_22,x14_32,eq_self, hlt', d2b, d3b, hl2, hl3]
    repeat (refine And.intro (by omega) ?_)
    exact ⟨k + 1, ⟨by omega, by omega⟩, by rw [hs], by rw [hs], rfl⟩
def ent14 (args : List AV) (K : AV → List AV → Sto → Prop) (e : List AV) (s : Sto) : Prop := ent (α := (Lea) × (Int)) (fun aa => [.agg aa.1.c, .i aa.2]) (fun aa => aa.1.far.length ≤ 1000) (fun aa => .tup [.i (trR aa.1 aa.2).1, .i (trR aa.1 aa.2).2]) args K e s
theorem ent14_ok {args : List AV} {K : AV → List AV → Sto → Prop} {Q : Kt} {e : List AV} {s : Sto} (h : ent14 args K e s) : pcall Tryd.prog 14 args K Q e s := ent_ok (fun aa h => pf14 aa.1 aa.2 h) h
theorem eq14 {l : Lea} {t : Int} {KK : AV → List AV → Sto → Prop} {ee : List AV} {ss : Sto} : ent14 [.d (.agg l.c), .d (.i t)] KK ee ss = ((l.far.length ≤ 1000) ∧ KK (.d (.tup [.i (trR l t).1, .i (trR l t).2])) ee ss) := by
  unfold ent14; rw [ent_iff (l, t) (by intro b h; simpa [Prod.ext_iff, and_assoc, Int.ofNat_inj, ints_inj, gams_inj, fars_inj, gam_inj, lea_inj, Int.ofNat_inj, ints_inj, gams_inj, fars_inj, gam_inj, lea_inj, stds_inj, std_inj] using h) rfl]; simp
end Go.Proofs.YtmajlffglplcnaaDoor
