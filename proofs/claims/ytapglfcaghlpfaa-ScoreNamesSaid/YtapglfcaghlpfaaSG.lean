/- A part of the proof that the last text ends: what functions of the program do, told by plain data. -/
import Derived.Test.YtapglfcaghlpfaaSF
set_option linter.unusedVariables false
set_option linter.unusedSimpArgs false
namespace Go.Proofs.Ytapglfcaghlpfaa
open Go Go.E Go.Maps
set_option maxRecDepth 100000
set_option maxHeartbeats 16000000
/-! ### Marks that count; what is taken off; lists compared -/
def csum (l : List Int) : Nat → Int
  | 0 => 0
  | k + 1 => csum l k + l.getD k default
def cmax (l : List Int) : Nat → Int
  | 0 => l.getD 0 default
  | k + 1 => max (cmax l k) (l.getD k default)
def cmin (l : List Int) : Nat → Int
  | 0 => l.getD 0 default
  | k + 1 => min (cmin l k) (l.getD k default)
def cnts (l : List Int) : Int × Int := if 5 ≤ (l.length : Int) then (csum l l.length - cmax l l.length - cmin l l.length, l.length - 2) else (csum l l.length, l.length)
structure Mks (l : List Int) : Prop where
  len : 1 ≤ l.length ∧ l.length ≤ 1000
  el : ∀ x ∈ l, -1000 ≤ x ∧ x ≤ 1000
theorem Mks.at {l : List Int} (h : Mks l) {i : Nat} (hi : i < l.length) : -1000 ≤ l.getD i default ∧ l.getD i default ≤ 1000 := by
  rw [at_lt hi]; exact h.el _ (List.getElem_mem _)
theorem c_b {l : List Int} (h : Mks l) : ∀ k, k ≤ l.length → (-1000 * (k : Int) ≤ csum l k ∧ csum l k ≤ 1000 * k) ∧ (-1000 ≤ cmax l k ∧ cmax l k ≤ 1000) ∧ -1000 ≤ cmin l k ∧ cmin l k ≤ 1000
  | 0, _ => by
    have := h.at (i := 0) (by have := h.len; omega)
    unfold csum cmax cmin; omega
  | k + 1, hk => by
    have ih := c_b h k (by omega)
    have := h.at (i := k) (by omega)
    unfold csum cmax cmin; omega
def O24 : Nat → Sch := fun id => if id = 6 then .one 0 (.one 1 (.one 2 (.one 3 (.one 4 (.one 5 (.one 6 (.one 7 (.one 8 (.done))))))))) else .done
theorem O24_6 : O24 6 = .one 0 (.one 1 (.one 2 (.one 3 (.one 4 (.one 5 (.one 6 (.one 7 (.one 8 (.done))))))))) := rfl
theorem ho24 : Try.f24.body.map (okO O24) = some true := by kernel_rfl
def Cf24 : Nat → List AV → (AV → List AV → Sto → Prop) → Kt → List AV → Sto → Prop := fun f args K Q e s => match f with
  | _ => False
def Ct24 : CT := { f := Cf24, y := noYld, z := fun d => false }
theorem ctz24 {d : Nat} : CT.z Ct24 d = (false) := id rfl
theorem Ct24_ok : Ct24.ok Try.prog := ok_of_f (fun f args K Q e s h => by
  have h : Cf24 f args K Q e s := h
  unfold Cf24 at h; split at h
  · exact h.elim) (fun _ _ _ _ _ _ _ _ _ h => h)
theorem c24 : callable Try.prog 24 = true := by kernel_rfl
theorem pf24 (a b : List Int) (h : a.length ≤ 1000000) : PF Try.prog 24 [.sl 1 (a.map ic), .sl 1 (b.map ic)] (fun zz => zz = .ret (.b (decide (a = b)))) := by
  by_cases c : a.length = b.length
  case neg =>
    have c' : ¬ (a.length : Int) = b.length := by omega
    have hw : decide (a = b) = false := decide_eq_false fun h => c (by rw [h])
    rw [hw]
    refine PF_nil (PF_start (O := O24) Ct24_ok hmix ho24 Try.func24 c24 rfl Try.ntmps24 Try.results24 ?_)
    simp (maxSteps := 4000000) +contextual (disch := first | omega | exact qdb_ok (by kernel_rfl) | exact okb_ok (by kernel_rfl)) only [bw1,bw2,bw3,bw4,bw5,bw6,bw7,bc0,bc1,bc2,bc3,bc4,bc5,bc6,bc7,setPs,AV.owns,AV.datF,AV.frz,AV.cpy,ifV,isEqB,nilV,nilX,AV.isNilS,AV.isNoRows,wk,dclo,datOf,binIs,addF,AV.isPtr,idxV,AV.isSl,AV.isSlice,AV.rows,ps,pv,extV,extS,AV.outs,AV.outF,packD,AV.dl,fieldV,fieldS,AV.cells?,AV.upr,AV.menc,AV.one,D.one,Value.oneCell',tagOf,AV.isApp,strV,strS,bolV,bolS,slcV,AV.isSlD,asrtS,AV.dcells,D.cells?,stcV,stcS,leafOk,eqDs,eqD,packA,D.val?,↓reduceIte,reduceCtorEq,Nat.reduceAdd,Nat.reduceSub,Nat.reduceMul,List.reduceReplicate,Nat.reduceLeDiff,Nat.reduceLT,Nat.reduceBEq,Nat.reduceEqDiff,Int.reduceNeg,Int.reduceEq,Int.reduceLE,Int.reduceLT,tfb,ctz24,O24_6,c']
  have c' : (a.length : Int) = b.length := by omega
  refine PF_nil (PF_start (O := O24) Ct24_ok hmix ho24 Try.func24 c24 rfl Try.ntmps24 Try.results24 ?_)
  simp (maxSteps := 4000000) +contextual (disch := first | omega | exact qdb_ok (by kernel_rfl) | exact okb_ok (by kernel_rfl)) only [bw1,bw2,bw3,bw4,bw5,bw6,bw7,bc0,bc1,bc2,bc3,bc4,bc5,bc6,bc7,setPs,AV.owns,AV.datF,AV.frz,AV.cpy,ifV,isEqB,nilV,nilX,AV.isNilS,AV.isNoRows,wk,dclo,datOf,binIs,addF,AV.isPtr,idxV,AV.isSl,AV.isSlice,AV.rows,ps,pv,extV,extS,AV.outs,AV.outF,packD,AV.dl,fieldV,fieldS,AV.cells?,AV.upr,AV.menc,AV.one,D.one,Value.oneCell',tagOf,AV.isApp,strV,strS,bolV,bolS,slcV,AV.isSlD,asrtS,AV.dcells,D.cells?,stcV,stcS,leafOk,eqDs,eqD,packA,D.val?,↓reduceIte,reduceCtorEq,Nat.reduceAdd,Nat.reduceSub,Nat.reduceMul,List.reduceReplicate,Nat.reduceLeDiff,Nat.reduceLT,Nat.reduceBEq,Nat.reduceEqDiff,Int.reduceNeg,Int.reduceEq,Int.reduceLE,Int.reduceLT,tfb,ctz24,O24_6,c']
  refine loop_s (O := O24) (tb := 0) Ct24_ok hmix (by kernel_rfl) (σ := Nat) (fun i => [(5, .i i)]) (fun i => i ≤ a.length ∧ ∀ j, j < i → a.getD j default = b.getD j default) (fun i => a.length - i) (fun i => i + 1) 0 ⟨by omega, fun j h => by omega⟩ ?_ ?_
  · simp (maxSteps := 4000000) +contextual (disch := first | omega | exact qdb_ok (by kernel_rfl) | exact okb_ok (by kernel_rfl)) only [bw1,bw2,bw3,bw4,bw5,bw6,bw7,bc0,bc1,bc2,bc3,bc4,bc5,bc6,bc7,setPs,AV.owns,AV.datF,AV.frz,AV.cpy,ifV,isEqB,nilV,nilX,AV.isNilS,AV.isNoRows,wk,dclo,datOf,binIs,addF,AV.isPtr,idxV,AV.isSl,AV.isSlice,AV.rows,ps,pv,extV,extS,AV.outs,AV.outF,packD,AV.dl,fieldV,fieldS,AV.cells?,AV.upr,AV.menc,AV.one,D.one,Value.oneCell',tagOf,AV.isApp,strV,strS,bolV,bolS,slcV,AV.isSlD,asrtS,AV.dcells,D.cells?,stcV,stcS,leafOk,eqDs,eqD,packA,D.val?,↓reduceIte,reduceCtorEq,Nat.reduceAdd,Nat.reduceSub,Nat.reduceMul,List.reduceReplicate,Nat.reduceLeDiff,Nat.reduceLT,Nat.reduceBEq,Nat.reduceEqDiff,Int.reduceNeg,Int.reduceEq,Int.reduceLE,Int.reduceLT,tfb,ctz24,O24_6]
  rintro i ⟨hi, hf⟩
  by_cases hlt : i < a.length
  · have hlt' : (i : Int) < b.length := by omega
    have hlt2 : (i : Int) < a.length := by omega
    by_cases d : a.getD i default = b.getD i default
    · have hf' : ∀ j, j < i + 1 → a.getD j default = b.getD j default := fun j hj => by
        rcases Nat.lt_or_ge j i with h | h
        · exact hf j h
        · rw [show j = i by omega]; exact d
      simp (maxSteps := 4000000) +contextual (disch := first | omega | exact qdb_ok (by kernel_rfl) | exact okb_ok (by kernel_rfl)) only [bw1,bw2,bw3,bw4,bw5,bw6,bw7,bc0,bc1,bc2,bc3,bc4,bc5,bc6,bc7,setPs,AV.owns,AV.datF,AV.frz,AV.cpy,ifV,isEqB,nilV,nilX,AV.isNilS,AV.isNoRows,wk,dclo,datOf,binIs,addF,AV.isPtr,idxV,AV.isSl,AV.isSlice,AV.rows,ps,pv,extV,extS,AV.outs,AV.outF,packD,AV.dl,fieldV,fieldS,AV.cells?,AV.upr,AV.menc,AV.one,D.one,Value.oneCell',tagOf,AV.isApp,strV,strS,bolV,bolS,slcV,AV.isSlD,asrtS,AV.dcells,D.cells?,stcV,stcS,leafOk,eqDs,eqD,packA,D.val?,↓reduceIte,reduceCtorEq,Nat.reduceAdd,Nat.reduceSub,Nat.reduceMul,List.reduceReplicate,Nat.reduceLeDiff,Nat.reduceLT,Nat.reduceBEq,Nat.reduceEqDiff,Int.reduceNeg,Int.reduceEq,Int.reduceLE,Int.reduceLT,tfb,ctz24,O24_6,eq_self, hlt', hlt2, c', d]
      and_intros <;> first | omega | exact hf'
    · have hw : decide (a = b) = false := decide_eq_false fun h => d (by rw [h])
      simp (maxSteps := 4000000) +contextual (disch := first | omega | exact qdb_ok (by kernel_rfl) | exact okb_ok (by kernel_rfl)) only [bw1,bw2,bw3,bw4,bw5,bw6,bw7,bc0,bc1,bc2,bc3,bc4,bc5,bc6,bc7,setPs,AV.owns,AV.datF,AV.frz,AV.cpy,ifV,isEqB,nilV,nilX,AV.isNilS,AV.isNoRows,wk,dclo,datOf,binIs,addF,AV.isPtr,idxV,AV.isSl,AV.isSlice,AV.rows,ps,pv,extV,extS,AV.outs,AV.outF,packD,AV.dl,fieldV,fieldS,AV.cells?,AV.upr,AV.menc,AV.one,D.one,Value.oneCell',tagOf,AV.isApp,strV,strS,bolV,bolS,slcV,AV.isSlD,asrtS,AV.dcells,D.cells?,stcV,stcS,leafOk,eqDs,eqD,packA,D.val?,↓reduceIte,reduceCtorEq,Nat.reduceAdd,Nat.reduceSub,Nat.reduceMul,List.reduceReplicate,Nat.reduceLeDiff,Nat.reduceLT,Nat.reduceBEq,Nat.reduceEqDiff,Int.reduceNeg,Int.reduceEq,Int.reduceLE,Int.reduceLT,tfb,ctz24,O24_6,eq_self, hlt', hlt2, c', d, hw]
      and_intros <;> first | omega | rfl
  · have hlt' : ¬ (i : Int) < b.length := by omega
    have hlt2 : ¬ (i : Int) < a.length := by omega
    have hw : decide (a = b) = true := decide_eq_true (List.ext_getElem c fun j h1 h2 => by
      have := hf j (by omega)
      rwa [at_lt h1, at_lt h2] at this)
    simp (maxSteps := 4000000) +contextual (disch := first | omega | exact qdb_ok (by kernel_rfl) | exact okb_ok (by kernel_rfl)) only [bw1,bw2,bw3,bw4,bw5,bw6,bw7,bc0,bc1,bc2,bc3,bc4,bc5,bc6,bc7,setPs,AV.owns,AV.datF,AV.frz,AV.cpy,ifV,isEqB,nilV,nilX,AV.isNilS,AV.isNoRows,wk,dclo,datOf,binIs,addF,AV.isPtr,idxV,AV.isSl,AV.isSlice,AV.rows,ps,pv,extV,extS,AV.outs,AV.outF,packD,AV.dl,fieldV,fieldS,AV.cells?,AV.upr,AV.menc,AV.one,D.one,Value.oneCell',tagOf,AV.isApp,strV,strS,bolV,bolS,slcV,AV.isSlD,asrtS,AV.dcells,D.cells?,stcV,stcS,leafOk,eqDs,eqD,packA,D.val?,↓reduceIte,reduceCtorEq,Nat.reduceAdd,Nat.reduceSub,Nat.reduceMul,List.reduceReplicate,Nat.reduceLeDiff,Nat.reduceLT,Nat.reduceBEq,Nat.reduceEqDiff,Int.reduceNeg,Int.reduceEq,Int.reduceLE,Int.reduceLT,tfb,ctz24,O24_6,eq_self, hlt', hlt2, c', hw]
def ent24 (args : List AV) (K : AV → List AV → Sto → Prop) (e : List AV) (s : Sto) : Prop := ent (α := (List Int) × (List Int)) (fun aa => [.sl 1 (aa.1.map ic), .sl 1 (aa.2.map ic)]) (fun aa => aa.1.length ≤ 1000000) (fun aa => .b (decide (aa.1 = aa.2))) args K e s
theorem ent24_ok {args : List AV} {K : AV → List AV → Sto → Prop} {Q : Kt} {e : List AV} {s : Sto} (h : ent24 args K e s) : pcall Try.prog 24 args K Q e s := ent_ok (fun aa h => pf24 aa.1 aa.2 h) h
theorem eq24 {a : List Int} {b : List Int} {KK : AV → List AV → Sto → Prop} {ee : List AV} {ss : Sto} : ent24 [.d (.sl 1 (a.map ic)), .d (.sl 1 (b.map ic))] KK ee ss = ((a.length ≤ 1000000) ∧ KK (.d (.b (decide (a = b)))) ee ss) := by
  unfold ent24; rw [ent_iff (a, b) (by intro b h; simpa [Prod.ext_iff, and_assoc, Int.ofNat_inj, ints_inj, cals_inj, pcs_inj, skas_inj, scos_inj, ska_inj, rul_inj, sco_inj, cal_inj] using h) rfl]; simp
theorem eqo24 {a : List Int} {b : List Int} {g1 el1 : Nat} {g2 el2 : Nat} {KK : AV → List AV → Sto → Prop} {ee : List AV} {ss : Sto} : ent24 [.own g1 el1 1 (a.map ic), .own g2 el2 1 (b.map ic)] KK ee ss = ((a.length ≤ 1000000) ∧ (.b (decide (a = b)) : D).flat = true ∧ KK (.d (.b (decide (a = b)))) ee ss) := by
  unfold ent24; rw [ent_iff (a, b) (by intro b h; simpa [Prod.ext_iff, and_assoc, Int.ofNat_inj, ints_inj, cals_inj, pcs_inj, skas_inj, scos_inj, ska_inj, rul_inj, sco_inj, cal_inj] using h) rfl]; simp
end Go.Proofs.Ytapglfcaghlpfaa
