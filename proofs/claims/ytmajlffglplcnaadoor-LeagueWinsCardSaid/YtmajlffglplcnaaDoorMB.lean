/- A part of the proof that the last text ends: what functions of the program do, told by plain data. -/
import Derived.Test.YtmajlffglplcnaaDoorMA
set_option linter.unusedVariables false
set_option linter.unusedSimpArgs false
namespace Go.Proofs.YtmajlffglplcnaaDoor
open Go Go.E
set_option maxRecDepth 100000
set_option maxHeartbeats 16000000
def rowOk (n : Int) (r : List Int) : Bool := decide ((r.length : Int) = n) && r.all fun x => inB x 0 100000
def openN (l : List Gam) (i : Nat) : Nat := (l.take i).countP fun g => decide (g.fin = 0)
def leaOk (l : Lea) : Bool := decide ((l.far.length : Int) ≤ 6) && (decide ((l.games.length : Int) ≤ 64) && (l.far.all (rowOk l.far.length) && (l.games.all (fun g => gmOk g l.far.length) && decide ((openN l.games l.games.length : Int) ≤ 8))))
theorem openN_yes {l : List Gam} {j : Nat} (h : j < l.length) (c : (l.getD j default).fin = 0) : openN l (j + 1) = openN l j + 1 := by
  unfold openN; rw [take_succ h, List.countP_append, List.countP_singleton, decide_eq_true c]; rfl
theorem openN_no {l : List Gam} {j : Nat} (h : j < l.length) (c : ¬ (l.getD j default).fin = 0) : openN l (j + 1) = openN l j := by
  unfold openN; rw [take_succ h, List.countP_append, List.countP_singleton, decide_eq_false c]; rfl
theorem openN_le {l : List Gam} {j : Nat} : openN l j ≤ j := by
  unfold openN; exact Nat.le_trans List.countP_le_length (by simp; omega)
theorem openN_zero {l : List Gam} : openN l 0 = 0 := by simp [openN]
theorem all_get {α : Type} [Inhabited α] {l : List α} {p : α → Bool} : l.all p = true ↔ ∀ j, j < l.length → p (l.getD j default) = true := by
  rw [List.all_eq_true]
  constructor
  · intro h j hj; rw [at_lt hj]; exact h _ (List.getElem_mem _)
  · intro h x hx
    obtain ⟨j, hj, rfl⟩ := List.getElem_of_mem hx
    have := h j hj
    rwa [at_lt hj] at this
theorem lea_far {l : Lea} {i : Nat} (hi : i < l.far.length) (h : rowOk l.far.length (l.far.getD i default) = false) : leaOk l = false := by
  cases hb : leaOk l with
  | false => rfl
  | true =>
    unfold leaOk at hb
    simp only [Bool.and_eq_true] at hb
    rw [all_get.1 hb.2.2.1 i hi] at h; cases h
theorem lea_gam {l : Lea} {i : Nat} (hi : i < l.games.length) (h : gmOk (l.games.getD i default) l.far.length = false) : leaOk l = false := by
  cases hb : leaOk l with
  | false => rfl
  | true =>
    unfold leaOk at hb
    simp only [Bool.and_eq_true] at hb
    rw [all_get.1 hb.2.2.2.1 i hi] at h; cases h
theorem lea_big {l : Lea} (h : ¬ ((l.far.length : Int) ≤ 6 ∧ (l.games.length : Int) ≤ 64)) : leaOk l = false := by
  cases hb : leaOk l with
  | false => rfl
  | true =>
    unfold leaOk at hb
    simp only [Bool.and_eq_true, decide_eq_true_eq] at hb
    exact absurd ⟨hb.1, hb.2.1⟩ h
theorem lea_end {l : Lea} (h : (l.far.length : Int) ≤ 6 ∧ (l.games.length : Int) ≤ 64) (h1 : ∀ j, j < l.far.length → rowOk l.far.length (l.far.getD j default) = true) (h2 : ∀ j, j < l.games.length → gmOk (l.games.getD j default) l.far.length = true) : leaOk l = decide ((openN l.games l.games.length : Int) ≤ 8) := by
  unfold leaOk
  rw [decide_eq_true h.1, decide_eq_true h.2, all_get.2 h1, all_get.2 h2]; rfl
theorem row_len {n : Int} {r : List Int} (h : ¬ (r.length : Int) = n) : rowOk n r = false := by unfold rowOk; rw [decide_eq_false h]; rfl
theorem row_at {n : Int} {r : List Int} {k : Nat} (hk : k < r.length) (h : inB (r.getD k default) 0 100000 = false) : rowOk n r = false := by
  cases hb : rowOk n r with
  | false => rfl
  | true =>
    unfold rowOk at hb
    simp only [Bool.and_eq_true] at hb
    rw [all_get.1 hb.2 k hk] at h; cases h
theorem row_end {n : Int} {r : List Int} (h : (r.length : Int) = n) (h1 : ∀ k, k < r.length → inB (r.getD k default) 0 100000 = true) : rowOk n r = true := by
  unfold rowOk; rw [decide_eq_true h, all_get.2 h1]; rfl
def O22 : Nat → Sch := fun id => .done
theorem ho22 : Tryd.f22.body.map (okO O22) = some true := by kernel_rfl
def Cf22 : Nat → List AV → (AV → List AV → Sto → Prop) → Kt → List AV → Sto → Prop := fun f args K Q e s => match f with
  | 32 => ent32 args K e s
  | 51 => ent51 args K e s
  | _ => False
def Ct22 : CT := { f := Cf22, y := noYld, z := fun d => false }
theorem ctz22 {d : Nat} : CT.z Ct22 d = (false) := id rfl
theorem Ct22_ok : Ct22.ok Tryd.prog := ok_of_f (fun f args K Q e s h => by
  have h : Cf22 f args K Q e s := h
  unfold Cf22 at h; split at h
  · exact ent32_ok h
  · exact ent51_ok h
  · exact h.elim) (fun _ _ _ _ _ _ _ _ _ h => h)
theorem x22_32 {n : Int} {lo : Int} {hi : Int} {KK : AV → List AV → Sto → Prop} {QQ : Kt} {ii : At KK} {jj : At QQ} {ee : List AV} {ss : Sto} : xC Ct22 32 [.d (.i n), .d (.i lo), .d (.i hi)] KK QQ ii jj ee ss = (KK (.d (.b (inB n lo hi))) ee ss) := eq32
theorem x22_51 {g : Gam} {n : Int} {KK : AV → List AV → Sto → Prop} {QQ : Kt} {ii : At KK} {jj : At QQ} {ee : List AV} {ss : Sto} : xC Ct22 51 [.d (.agg g.c), .d (.i n)] KK QQ ii jj ee ss = ((0 ≤ n ∧ n ≤ 1000000) ∧ KK (.d (.b (gmOk g n))) ee ss) := eq51
theorem c22 : callable Tryd.prog 22 = true := by kernel_rfl
theorem pf22 (l : Lea) (h : l.far.length ≤ 1000) : PF Tryd.prog 22 [.agg l.c] (fun zz => zz = .ret (.b (leaOk l))) := by
  have hfar := h
  refine PF_nil (PF_start (O := O22) Ct22_ok hmix ho22 Tryd.func22 c22 rfl Tryd.ntmps22 Tryd.results22 ?_)
  simp (maxSteps := 4000000) +contextual (disch := first | omega | exact qdb_ok (by kernel_rfl) | exact okb_ok (by kernel_rfl)) only [bw1,bw2,bw3,bw4,bw5,bw6,bw7,bc0,bc1,bc2,bc3,bc4,bc5,bc6,bc7,bb0,setPs,AV.owns,AV.datF,AV.frz,AV.cpy,ifV,isEqB,nilV,nilX,AV.isNilS,AV.isNoRows,wk,dclo,datOf,binIs,addF,AV.isPtr,idxV,AV.isSl,AV.isSlice,AV.rows,ps,pv,extV,extS,AV.outs,AV.outF,packD,AV.dl,fieldV,fieldS,AV.cells?,AV.upr,AV.menc,AV.one,D.one,Value.oneCell',tagOf,AV.isApp,strV,strS,bolV,bolS,slcV,AV.isSlD,asrtS,AV.dcells,D.cells?,stcV,stcS,leafOk,eqDs,eqD,packA,D.val?,↓reduceIte,reduceCtorEq,Nat.reduceAdd,Nat.reduceSub,Nat.reduceMul,List.reduceReplicate,Nat.reduceLeDiff,Nat.reduceLT,Nat.reduceBEq,Nat.reduceEqDiff,Int.reduceNeg,Int.reduceEq,Int.reduceLE,Int.reduceLT,tfb,ctz22,x22_32,x22_51]
  refine loop_s (O := O22) (tb := 0) Ct22_ok hmix (by kernel_rfl) (σ := Nat) (fun i => [(4, .i i)]) (fun i => (i ≤ l.far.length ∧ i ≤ 7) ∧ ∀ j, j < i → rowOk l.far.length (l.far.getD j default) = true) (fun i => l.far.length - i) (fun i => i + 1) 0 ⟨⟨Nat.zero_le _, by omega⟩, fun j hj => by omega⟩ ?_ ?_
  · simp (maxSteps := 4000000) +contextual (disch := first | omega | exact qdb_ok (by kernel_rfl) | exact okb_ok (by kernel_rfl)) only [bw1,bw2,bw3,bw4,bw5,bw6,bw7,bc0,bc1,bc2,bc3,bc4,bc5,bc6,bc7,bb0,setPs,AV.owns,AV.datF,AV.frz,AV.cpy,ifV,isEqB,nilV,nilX,AV.isNilS,AV.isNoRows,wk,dclo,datOf,binIs,addF,AV.isPtr,idxV,AV.isSl,AV.isSlice,AV.rows,ps,pv,extV,extS,AV.outs,AV.outF,packD,AV.dl,fieldV,fieldS,AV.cells?,AV.upr,AV.menc,AV.one,D.one,Value.oneCell',tagOf,AV.isApp,strV,strS,bolV,bolS,slcV,AV.isSlD,asrtS,AV.dcells,D.cells?,stcV,stcS,leafOk,eqDs,eqD,packA,D.val?,↓reduceIte,reduceCtorEq,Nat.reduceAdd,Nat.reduceSub,Nat.reduceMul,List.reduceReplicate,Nat.reduceLeDiff,Nat.reduceLT,Nat.reduceBEq,Nat.reduceEqDiff,Int.reduceNeg,Int.reduceEq,Int.reduceLE,Int.reduceLT,tfb,ctz22,x22_32,x22_51]
  rintro i ⟨⟨hi1, hi2⟩, hi3⟩
  by_cases c1 : i < l.far.length ∧ i ≤ 6
  · obtain ⟨c1, c2⟩ := c1
    have c1' : (i : Int) < l.far.length := by omega
    have c2' : (i : Int) ≤ 6 := by omega
    by_cases c3 : ((l.far.getD i default).length : Int) = l.far.length
    case neg =>
      have c3b : (((l.far.getD i default).length : Int) != (l.far.length : Int)) = true := by simpa using c3
      rw [lea_far c1 (row_len c3)]
      simp (maxSteps := 4000000) +contextual (disch := first | omega | exact qdb_ok (by kernel_rfl) | exact okb_ok (by kernel_rfl)) only [bw1,bw2,bw3,bw4,bw5,bw6,bw7,bc0,bc1,bc2,bc3,bc4,bc5,bc6,bc7,bb0,setPs,AV.owns,AV.datF,AV.frz,AV.cpy,ifV,isEqB,nilV,nilX,AV.isNilS,AV.isNoRows,wk,dclo,datOf,binIs,addF,AV.isPtr,idxV,AV.isSl,AV.isSlice,AV.rows,ps,pv,extV,extS,AV.outs,AV.outF,packD,AV.dl,fieldV,fieldS,AV.cells?,AV.upr,AV.menc,AV.one,D.one,Value.oneCell',tagOf,AV.isApp,strV,strS,bolV,bolS,slcV,AV.isSlD,asrtS,AV.dcells,D.cells?,stcV,stcS,leafOk,eqDs,eqD,packA,D.val?,↓reduceIte,reduceCtorEq,Nat.reduceAdd,Nat.reduceSub,Nat.reduceMul,List.reduceReplicate,Nat.reduceLeDiff,Nat.reduceLT,Nat.reduceBEq,Nat.reduceEqDiff,Int.reduceNeg,Int.reduceEq,Int.reduceLE,Int.reduceLT,tfb,ctz22,x22_32,x22_51,eq_self, c1', c2', c3b]
      try (and_intros <;> first | omega | rfl | trivial)
    have c3b : (((l.far.getD i default).length : Int) != (l.far.length : Int)) = false := by simpa using c3
    simp (maxSteps := 4000000) +contextual (disch := first | omega | exact qdb_ok (by kernel_rfl) | exact okb_ok (by kernel_rfl)) only [bw1,bw2,bw3,bw4,bw5,bw6,bw7,bc0,bc1,bc2,bc3,bc4,bc5,bc6,bc7,bb0,setPs,AV.owns,AV.datF,AV.frz,AV.cpy,ifV,isEqB,nilV,nilX,AV.isNilS,AV.isNoRows,wk,dclo,datOf,binIs,addF,AV.isPtr,idxV,AV.isSl,AV.isSlice,AV.rows,ps,pv,extV,extS,AV.outs,AV.outF,packD,AV.dl,fieldV,fieldS,AV.cells?,AV.upr,AV.menc,AV.one,D.one,Value.oneCell',tagOf,AV.isApp,strV,strS,bolV,bolS,slcV,AV.isSlD,asrtS,AV.dcells,D.cells?,stcV,stcS,leafOk,eqDs,eqD,packA,D.val?,↓reduceIte,reduceCtorEq,Nat.reduceAdd,Nat.reduceSub,Nat.reduceMul,List.reduceReplicate,Nat.reduceLeDiff,Nat.reduceLT,Nat.reduceBEq,Nat.reduceEqDiff,Int.reduceNeg,Int.reduceEq,Int.reduceLE,Int.reduceLT,tfb,ctz22,x22_32,x22_51,eq_self, c1', c2', c3b]
    refine ⟨by omega, ?_⟩
    refine loop_s (O := O22) (tb := 0) Ct22_ok hmix (by kernel_rfl) (σ := Nat) (fun k => [(5, .i k)]) (fun k => k ≤ l.far.length ∧ ∀ q, q < k → inB ((l.far.getD i default).getD q default) 0 100000 = true) (fun k => l.far.length - k) (fun k => k + 1) 0 ⟨Nat.zero_le _, fun j hj => by omega⟩ ?_ ?_
    · simp (maxSteps := 4000000) +contextual (disch := first | omega | exact qdb_ok (by kernel_rfl) | exact okb_ok (by kernel_rfl)) only [bw1,bw2,bw3,bw4,bw5,bw6,bw7,bc0,bc1,bc2,bc3,bc4,bc5,bc6,bc7,bb0,setPs,AV.owns,AV.datF,AV.frz,AV.cpy,ifV,isEqB,nilV,nilX,AV.isNilS,AV.isNoRows,wk,dclo,datOf,binIs,addF,AV.isPtr,idxV,AV.isSl,AV.isSlice,AV.rows,ps,pv,extV,extS,AV.outs,AV.outF,packD,AV.dl,fieldV,fieldS,AV.cells?,AV.upr,AV.menc,AV.one,D.one,Value.oneCell',tagOf,AV.isApp,strV,strS,bolV,bolS,slcV,AV.isSlD,asrtS,AV.dcells,D.cells?,stcV,stcS,leafOk,eqDs,eqD,packA,D.val?,↓reduceIte,reduceCtorEq,Nat.reduceAdd,Nat.reduceSub,Nat.reduceMul,List.reduceReplicate,Nat.reduceLeDiff,Nat.reduceLT,Nat.reduceBEq,Nat.reduceEqDiff,Int.reduceNeg,Int.reduceEq,Int.reduceLE,Int.reduceLT,tfb,ctz22,x22_32,x22_51]
      try rfl
    rintro k ⟨hk1, hk2⟩
    by_cases d1 : k < l.far.length
    · have d1' : (k : Int) < l.far.length := by omega
      by_cases d2 : inB ((l.far.getD i default).getD k default) 0 100000 = true
      · simp (maxSteps := 4000000) +contextual (disch := first | omega | exact qdb_ok (by kernel_rfl) | exact okb_ok (by kernel_rfl)) only [bw1,bw2,bw3,bw4,bw5,bw6,bw7,bc0,bc1,bc2,bc3,bc4,bc5,bc6,bc7,bb0,setPs,AV.owns,AV.datF,AV.frz,AV.cpy,ifV,isEqB,nilV,nilX,AV.isNilS,AV.isNoRows,wk,dclo,datOf,binIs,addF,AV.isPtr,idxV,AV.isSl,AV.isSlice,AV.rows,ps,pv,extV,extS,AV.outs,AV.outF,packD,AV.dl,fieldV,fieldS,AV.cells?,AV.upr,AV.menc,AV.one,D.one,Value.oneCell',tagOf,AV.isApp,strV,strS,bolV,bolS,slcV,AV.isSlD,asrtS,AV.dcells,D.cells?,stcV,stcS,leafOk,eqDs,eqD,packA,D.val?,↓reduceIte,reduceCtorEq,Nat.reduceAdd,Nat.reduceSub,Nat.reduceMul,List.reduceReplicate,Nat.reduceLeDiff,Nat.reduceLT,Nat.reduceBEq,Nat.reduceEqDiff,Int.reduceNeg,Int.reduceEq,Int.reduceLE,Int.reduceLT,tfb,ctz22,x22_32,x22_51,eq_self, d1', d2, c1']
        and_intros <;> first | omega | rfl | trivial | (intro q hq; rcases Nat.lt_succ_iff_lt_or_eq.1 hq with h' | rfl; exact hk2 q h'; exact d2)
      · have d2b : inB ((l.far.getD i default).getD k default) 0 100000 = false := by simpa using d2
        rw [lea_far c1 (row_at (k := k) (by omega) d2b)]
        simp (maxSteps := 4000000) +contextual (disch := first | omega | exact qdb_ok (by kernel_rfl) | exact okb_ok (by kernel_rfl)) only [bw1,bw2,bw3,bw4,bw5,bw6,bw7,bc0,bc1,bc2,bc3,bc4,bc5,bc6,bc7,bb0,setPs,AV.owns,AV.datF,AV.frz,AV.cpy,ifV,isEqB,nilV,nilX,AV.isNilS,AV.isNoRows,wk,dclo,datOf,binIs,addF,AV.isPtr,idxV,AV.isSl,AV.isSlice,AV.rows,ps,pv,extV,extS,AV.outs,AV.outF,packD,AV.dl,fieldV,fieldS,AV.cells?,AV.upr,AV.menc,AV.one,D.one,Value.oneCell',tagOf,AV.isApp,strV,strS,bolV,bolS,slcV,AV.isSlD,asrtS,AV.dcells,D.cells?,stcV,stcS,leafOk,eqDs,eqD,packA,D.val?,↓reduceIte,reduceCtorEq,Nat.reduceAdd,Nat.reduceSub,Nat.reduceMul,List.reduceReplicate,Nat.reduceLeDiff,Nat.reduceLT,Nat.reduceBEq,Nat.reduceEqDiff,Int.reduceNeg,Int.reduceEq,Int.reduceLE,Int.reduceLT,tfb,ctz22,x22_32,x22_51,eq_self, d1', d2b, c1']
        try (and_intros <;> first | omega | rfl | trivial)
    have d1' : ¬ (k : Int) < l.far.length := by omega
    have hro := row_end c3 fun q hq => hk2 q (by omega)
    simp (maxSteps := 4000000) +contextual (disch := first | omega | exact qdb_ok (by kernel_rfl) | exact okb_ok (by kernel_rfl)) only [bw1,bw2,bw3,bw4,bw5,bw6,bw7,bc0,bc1,bc2,bc3,bc4,bc5,bc6,bc7,bb0,setPs,AV.owns,AV.datF,AV.frz,AV.cpy,ifV,isEqB,nilV,nilX,AV.isNilS,AV.isNoRows,wk,dclo,datOf,binIs,addF,AV.isPtr,idxV,AV.isSl,AV.isSlice,AV.rows,ps,pv,extV,extS,AV.outs,AV.outF,packD,AV.dl,fieldV,fieldS,AV.cells?,AV.upr,AV.menc,AV.one,D.one,Value.oneCell',tagOf,AV.isApp,strV,strS,bolV,bolS,slcV,AV.isSlD,asrtS,AV.dcells,D.cells?,stcV,stcS,leafOk,eqDs,eqD,packA,D.val?,↓reduceIte,reduceCtorEq,Nat.reduceAdd,Nat.reduceSub,Nat.reduceMul,List.reduceReplicate,Nat.reduceLeDiff,Nat.reduceLT,Nat.reduceBEq,Nat.reduceEqDiff,Int.reduceNeg,Int.reduceEq,Int.reduceLE,Int.reduceLT,tfb,ctz22,x22_32,x22_51,eq_self, d1']
    and_intros <;> first | omega | rfl | trivial | (intro q hq; rcases Nat.lt_succ_iff_lt_or_eq.1 hq with h' | rfl; exact hi3 q h'; exact hro)
  have hex : ∀ (P : Prop), ((¬ (i : Int) < l.far.length) → P) → ((i : Int) < l.far.length → ¬ (i : Int) ≤ 6 → P) → P := fun P h1 h2 => by
    by_cases q : (i : Int) < l.far.length
    · exact h2 q (by omega)
    · exact h1 q
  have hall : (l.far.length : Int) ≤ 6 → ∀ j, j < l.far.length → rowOk l.far.length (l.far.getD j default) = true := fun h6 j hj => hi3 j (by omega)
  have key : ∀ (c1b c2b : Prop), True := fun _ _ => trivial
  refine hex _ (fun c1' => ?_) (fun c1' c2' => ?_)
  all_goals
    first | (simp (maxSteps := 4000000) +contextual (disch := first | omega | exact qdb_ok (by kernel_rfl) | exact okb_ok (by kernel_rfl)) only [bw1,bw2,bw3,bw4,bw5,bw6,bw7,bc0,bc1,bc2,bc3,bc4,bc5,bc6,bc7,bb0,setPs,AV.owns,AV.datF,AV.frz,AV.cpy,ifV,isEqB,nilV,nilX,AV.isNilS,AV.isNoRows,wk,dclo,datOf,binIs,addF,AV.isPtr,idxV,AV.isSl,AV.isSlice,AV.rows,ps,pv,extV,extS,AV.outs,AV.outF,packD,AV.dl,fieldV,fieldS,AV.cells?,AV.upr,AV.menc,AV.one,D.one,Value.oneCell',tagOf,AV.isApp,strV,strS,bolV,bolS,slcV,AV.isSlD,asrtS,AV.dcells,D.cells?,stcV,stcS,leafOk,eqDs,eqD,packA,D.val?,↓reduceIte,reduceCtorEq,Nat.reduceAdd,Nat.reduceSub,Nat.reduceMul,List.reduceReplicate,Nat.reduceLeDiff,Nat.reduceLT,Nat.reduceBEq,Nat.reduceEqDiff,Int.reduceNeg,Int.reduceEq,Int.reduceLE,Int.reduceLT,tfb,ctz22,x22_32,x22_51,eq_self, c1', c2']) | (simp (maxSteps := 4000000) +contextual (disch := first | omega | exact qdb_ok (by kernel_rfl) | exact okb_ok (by kernel_rfl)) only [bw1,bw2,bw3,bw4,bw5,bw6,bw7,bc0,bc1,bc2,bc3,bc4,bc5,bc6,bc7,bb0,setPs,AV.owns,AV.datF,AV.frz,AV.cpy,ifV,isEqB,nilV,nilX,AV.isNilS,AV.isNoRows,wk,dclo,datOf,binIs,addF,AV.isPtr,idxV,AV.isSl,AV.isSlice,AV.rows,ps,pv,extV,extS,AV.outs,AV.outF,packD,AV.dl,fieldV,fieldS,AV.cells?,AV.upr,AV.menc,AV.one,D.one,Value.oneCell',tagOf,AV.isApp,strV,strS,bolV,bolS,slcV,AV.isSlD,asrtS,AV.dcells,D.cells?,stcV,stcS,leafOk,eqDs,eqD,packA,D.val?,↓reduceIte,reduceCtorEq,Nat.reduceAdd,Nat.reduceSub,Nat.reduceMul,List.reduceReplicate,Nat.reduceLeDiff,Nat.reduceLT,Nat.reduceBEq,Nat.reduceEqDiff,Int.reduceNeg,Int.reduceEq,Int.reduceLE,Int.reduceLT,tfb,ctz22,x22_32,x22_51,eq_self, c1'])
    refine loop_s (O := O22) (tb := 0) Ct22_ok hmix (by kernel_rfl) (σ := Nat) (fun j => [(6, .i (openN l.games j : Int)), (7, .i j)]) (fun j => (j ≤ l.games.length ∧ j ≤ 65) ∧ ∀ q, q < j → gmOk (l.games.getD q default) l.far.length = true) (fun j => l.games.length - j) (fun j => j + 1) 0 ⟨⟨Nat.zero_le _, by omega⟩, fun j hj => by omega⟩ ?_ ?_
    · have hz : openN l.games 0 = 0 := openN_zero
      simp (maxSteps := 4000000) +contextual (disch := first | omega | exact qdb_ok (by kernel_rfl) | exact okb_ok (by kernel_rfl)) only [bw1,bw2,bw3,bw4,bw5,bw6,bw7,bc0,bc1,bc2,bc3,bc4,bc5,bc6,bc7,bb0,setPs,AV.owns,AV.datF,AV.frz,AV.cpy,ifV,isEqB,nilV,nilX,AV.isNilS,AV.isNoRows,wk,dclo,datOf,binIs,addF,AV.isPtr,idxV,AV.isSl,AV.isSlice,AV.rows,ps,pv,extV,extS,AV.outs,AV.outF,packD,AV.dl,fieldV,fieldS,AV.cells?,AV.upr,AV.menc,AV.one,D.one,Value.oneCell',tagOf,AV.isApp,strV,strS,bolV,bolS,slcV,AV.isSlD,asrtS,AV.dcells,D.cells?,stcV,stcS,leafOk,eqDs,eqD,packA,D.val?,↓reduceIte,reduceCtorEq,Nat.reduceAdd,Nat.reduceSub,Nat.reduceMul,List.reduceReplicate,Nat.reduceLeDiff,Nat.reduceLT,Nat.reduceBEq,Nat.reduceEqDiff,Int.reduceNeg,Int.reduceEq,Int.reduceLE,Int.reduceLT,tfb,ctz22,x22_32,x22_51,hz]
      try rfl
    rintro j ⟨⟨hj1, hj2⟩, hj3⟩
    have hon := openN_le (l := l.games) (j := j)
    by_cases e1 : j < l.games.length
    · have e1' : (j : Int) < l.games.length := by omega
      by_cases e2 : j ≤ 64
      · have e2' : (j : Int) ≤ 64 := by omega
        by_cases e3 : gmOk (l.games.getD j default) l.far.length = true
        · by_cases e4 : (l.games.getD j default).fin = 0
          · have e4b : ((l.games.getD j default).fin == 0) = true := by simpa using e4
            have hs := openN_yes e1 e4
            simp (maxSteps := 4000000) +contextual (disch := first | omega | exact qdb_ok (by kernel_rfl) | exact okb_ok (by kernel_rfl)) only [bw1,bw2,bw3,bw4,bw5,bw6,bw7,bc0,bc1,bc2,bc3,bc4,bc5,bc6,bc7,bb0,setPs,AV.owns,AV.datF,AV.frz,AV.cpy,ifV,isEqB,nilV,nilX,AV.isNilS,AV.isNoRows,wk,dclo,datOf,binIs,addF,AV.isPtr,idxV,AV.isSl,AV.isSlice,AV.rows,ps,pv,extV,extS,AV.outs,AV.outF,packD,AV.dl,fieldV,fieldS,AV.cells?,AV.upr,AV.menc,AV.one,D.one,Value.oneCell',tagOf,AV.isApp,strV,strS,bolV,bolS,slcV,AV.isSlD,asrtS,AV.dcells,D.cells?,stcV,stcS,leafOk,eqDs,eqD,packA,D.val?,↓reduceIte,reduceCtorEq,Nat.reduceAdd,Nat.reduceSub,Nat.reduceMul,List.reduceReplicate,Nat.reduceLeDiff,Nat.reduceLT,Nat.reduceBEq,Nat.reduceEqDiff,Int.reduceNeg,Int.reduceEq,Int.reduceLE,Int.reduceLT,tfb,ctz22,x22_32,x22_51,eq_self, e1', e2', e3, e4b, hfar]
            and_intros <;> first | omega | rfl | trivial | (rw [hs]; rfl) | (intro q hq; rcases Nat.lt_succ_iff_lt_or_eq.1 hq with h' | rfl; exact hj3 q h'; exact e3)
          · have e4b : ((l.games.getD j default).fin == 0) = false := by simpa using e4
            have hs := openN_no e1 e4
            simp (maxSteps := 4000000) +contextual (disch := first | omega | exact qdb_ok (by kernel_rfl) | exact okb_ok (by kernel_rfl)) only [bw1,bw2,bw3,bw4,bw5,bw6,bw7,bc0,bc1,bc2,bc3,bc4,bc5,bc6,bc7,bb0,setPs,AV.owns,AV.datF,AV.frz,AV.cpy,ifV,isEqB,nilV,nilX,AV.isNilS,AV.isNoRows,wk,dclo,datOf,binIs,addF,AV.isPtr,idxV,AV.isSl,AV.isSlice,AV.rows,ps,pv,extV,extS,AV.outs,AV.outF,packD,AV.dl,fieldV,fieldS,AV.cells?,AV.upr,AV.menc,AV.one,D.one,Value.oneCell',tagOf,AV.isApp,strV,strS,bolV,bolS,slcV,AV.isSlD,asrtS,AV.dcells,D.cells?,stcV,stcS,leafOk,eqDs,eqD,packA,D.val?,↓reduceIte,reduceCtorEq,Nat.reduceAdd,Nat.reduceSub,Nat.reduceMul,List.reduceReplicate,Nat.reduceLeDiff,Nat.reduceLT,Nat.reduceBEq,Nat.reduceEqDiff,Int.reduceNeg,Int.reduceEq,Int.reduceLE,Int.reduceLT,tfb,ctz22,x22_32,x22_51,eq_self, e1', e2', e3, e4b, hfar]
            and_intros <;> first | omega | rfl | trivial | (rw [hs]) | (intro q hq; rcases Nat.lt_succ_iff_lt_or_eq.1 hq with h' | rfl; exact hj3 q h'; exact e3)
        · have e3b : gmOk (l.games.getD j default) l.far.length = false := by simpa using e3
          rw [lea_gam e1 e3b]
          simp (maxSteps := 4000000) +contextual (disch := first | omega | exact qdb_ok (by kernel_rfl) | exact okb_ok (by kernel_rfl)) only [bw1,bw2,bw3,bw4,bw5,bw6,bw7,bc0,bc1,bc2,bc3,bc4,bc5,bc6,bc7,bb0,setPs,AV.owns,AV.datF,AV.frz,AV.cpy,ifV,isEqB,nilV,nilX,AV.isNilS,AV.isNoRows,wk,dclo,datOf,binIs,addF,AV.isPtr,idxV,AV.isSl,AV.isSlice,AV.rows,ps,pv,extV,extS,AV.outs,AV.outF,packD,AV.dl,fieldV,fieldS,AV.cells?,AV.upr,AV.menc,AV.one,D.one,Value.oneCell',tagOf,AV.isApp,strV,strS,bolV,bolS,slcV,AV.isSlD,asrtS,AV.dcells,D.cells?,stcV,stcS,leafOk,eqDs,eqD,packA,D.val?,↓reduceIte,reduceCtorEq,Nat.reduceAdd,Nat.reduceSub,Nat.reduceMul,List.reduceReplicate,Nat.reduceLeDiff,Nat.reduceLT,Nat.reduceBEq,Nat.reduceEqDiff,Int.reduceNeg,Int.reduceEq,Int.reduceLE,Int.reduceLT,tfb,ctz22,x22_32,x22_51,eq_self, e1', e2', e3b, hfar]
          try (and_intros <;> first | omega | rfl | trivial)
      · have e2' : ¬ (j : Int) ≤ 64 := by omega
        have e5 : ¬ (l.games.length : Int) ≤ 64 := by omega
        rw [lea_big fun h => e5 h.2]
        simp (maxSteps := 4000000) +contextual (disch := first | omega | exact qdb_ok (by kernel_rfl) | exact okb_ok (by kernel_rfl)) only [bw1,bw2,bw3,bw4,bw5,bw6,bw7,bc0,bc1,bc2,bc3,bc4,bc5,bc6,bc7,bb0,setPs,AV.owns,AV.datF,AV.frz,AV.cpy,ifV,isEqB,nilV,nilX,AV.isNilS,AV.isNoRows,wk,dclo,datOf,binIs,addF,AV.isPtr,idxV,AV.isSl,AV.isSlice,AV.rows,ps,pv,extV,extS,AV.outs,AV.outF,packD,AV.dl,fieldV,fieldS,AV.cells?,AV.upr,AV.menc,AV.one,D.one,Value.oneCell',tagOf,AV.isApp,strV,strS,bolV,bolS,slcV,AV.isSlD,asrtS,AV.dcells,D.cells?,stcV,stcS,leafOk,eqDs,eqD,packA,D.val?,↓reduceIte,reduceCtorEq,Nat.reduceAdd,Nat.reduceSub,Nat.reduceMul,List.reduceReplicate,Nat.reduceLeDiff,Nat.reduceLT,Nat.reduceBEq,Nat.reduceEqDiff,Int.reduceNeg,Int.reduceEq,Int.reduceLE,Int.reduceLT,tfb,ctz22,x22_32,x22_51,eq_self, e1', e2', e5]
    · have e1' : ¬ (j : Int) < l.games.length := by omega
      obtain rfl : j = l.games.length := by omega
      by_cases f1 : (l.far.length : Int) ≤ 6 ∧ (l.games.length : Int) ≤ 64
      · rw [lea_end f1 (hall f1.1) (fun q hq => hj3 q hq)]
        simp (maxSteps := 4000000) +contextual (disch := first | omega | exact qdb_ok (by kernel_rfl) | exact okb_ok (by kernel_rfl)) only [bw1,bw2,bw3,bw4,bw5,bw6,bw7,bc0,bc1,bc2,bc3,bc4,bc5,bc6,bc7,bb0,setPs,AV.owns,AV.datF,AV.frz,AV.cpy,ifV,isEqB,nilV,nilX,AV.isNilS,AV.isNoRows,wk,dclo,datOf,binIs,addF,AV.isPtr,idxV,AV.isSl,AV.isSlice,AV.rows,ps,pv,extV,extS,AV.outs,AV.outF,packD,AV.dl,fieldV,fieldS,AV.cells?,AV.upr,AV.menc,AV.one,D.one,Value.oneCell',tagOf,AV.isApp,strV,strS,bolV,bolS,slcV,AV.isSlD,asrtS,AV.dcells,D.cells?,stcV,stcS,leafOk,eqDs,eqD,packA,D.val?,↓reduceIte,reduceCtorEq,Nat.reduceAdd,Nat.reduceSub,Nat.reduceMul,List.reduceReplicate,Nat.reduceLeDiff,Nat.reduceLT,Nat.reduceBEq,Nat.reduceEqDiff,Int.reduceNeg,Int.reduceEq,Int.reduceLE,Int.reduceLT,tfb,ctz22,x22_32,x22_51,eq_self, Int.lt_irrefl, f1.1, f1.2]
      · rw [lea_big f1]
        by_cases f2 : (l.far.length : Int) ≤ 6
        · have f3 : ¬ (l.games.length : Int) ≤ 64 := fun h => f1 ⟨f2, h⟩
          simp (maxSteps := 4000000) +contextual (disch := first | omega | exact qdb_ok (by kernel_rfl) | exact okb_ok (by kernel_rfl)) only [bw1,bw2,bw3,bw4,bw5,bw6,bw7,bc0,bc1,bc2,bc3,bc4,bc5,bc6,bc7,bb0,setPs,AV.owns,AV.datF,AV.frz,AV.cpy,ifV,isEqB,nilV,nilX,AV.isNilS,AV.isNoRows,wk,dclo,datOf,binIs,addF,AV.isPtr,idxV,AV.isSl,AV.isSlice,AV.rows,ps,pv,extV,extS,AV.outs,AV.outF,packD,AV.dl,fieldV,fieldS,AV.cells?,AV.upr,AV.menc,AV.one,D.one,Value.oneCell',tagOf,AV.isApp,strV,strS,bolV,bolS,slcV,AV.isSlD,asrtS,AV.dcells,D.cells?,stcV,stcS,leafOk,eqDs,eqD,packA,D.val?,↓reduceIte,reduceCtorEq,Nat.reduceAdd,Nat.reduceSub,Nat.reduceMul,List.reduceReplicate,Nat.reduceLeDiff,Nat.reduceLT,Nat.reduceBEq,Nat.reduceEqDiff,Int.reduceNeg,Int.reduceEq,Int.reduceLE,Int.reduceLT,tfb,ctz22,x22_32,x22_51,eq_self, Int.lt_irrefl, f2, f3]
        · simp (maxSteps := 4000000) +contextual (disch := first | omega | exact qdb_ok (by kernel_rfl) | exact okb_ok (by kernel_rfl)) only [bw1,bw2,bw3,bw4,bw5,bw6,bw7,bc0,bc1,bc2,bc3,bc4,bc5,bc6,bc7,bb0,setPs,AV.owns,AV.datF,AV.frz,AV.cpy,ifV,isEqB,nilV,nilX,AV.isNilS,AV.isNoRows,wk,dclo,datOf,binIs,addF,AV.isPtr,idxV,AV.isSl,AV.isSlice,AV.rows,ps,pv,extV,extS,AV.outs,AV.outF,packD,AV.dl,fieldV,fieldS,AV.cells?,AV.upr,AV.menc,AV.one,D.one,Value.oneCell',tagOf,AV.isApp,strV,strS,bolV,bolS,slcV,AV.isSlD,asrtS,AV.dcells,D.cells?,stcV,stcS,leafOk,eqDs,eqD,packA,D.val?,↓reduceIte,reduceCtorEq,Nat.reduceAdd,Nat.reduceSub,Nat.reduceMul,List.reduceReplicate,Nat.reduceLeDiff,Nat.reduceLT,Nat.reduceBEq,Nat.reduceEqDiff,Int.reduceNeg,Int.reduceEq,Int.reduceLE,Int.reduceLT,tfb,ctz22,x22_32,x22_51,eq_self, Int.lt_irrefl, f2]
def ent22 (args : List AV) (K : AV → List AV → Sto → Prop) (e : List AV) (s : Sto) : Prop := ent (α := (Lea)) (fun aa => [.agg aa.c]) (fun aa => aa.far.length ≤ 1000) (fun aa => .b (leaOk aa)) args K e s
theorem ent22_ok {args : List AV} {K : AV → List AV → Sto → Prop} {Q : Kt} {e : List AV} {s : Sto} (h : ent22 args K e s) : pcall Tryd.prog 22 args K Q e s := ent_ok (fun aa h => pf22 aa h) h
theorem eq22 {l : Lea} {KK : AV → List AV → Sto → Prop} {ee : List AV} {ss : Sto} : ent22 [.d (.agg l.c)] KK ee ss = ((l.far.length ≤ 1000) ∧ KK (.d (.b (leaOk l))) ee ss) := by
  unfold ent22; rw [ent_iff l (by intro b h; simpa [Prod.ext_iff, and_assoc, Int.ofNat_inj, ints_inj, gams_inj, fars_inj, gam_inj, lea_inj] using h) rfl]; simp
end Go.Proofs.YtmajlffglplcnaaDoor
