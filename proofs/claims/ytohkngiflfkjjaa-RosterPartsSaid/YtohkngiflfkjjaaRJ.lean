/- A part of the proof that the last text ends: what functions of the program do, told by plain data. -/
import Derived.Test.YtohkngiflfkjjaaRI
set_option linter.unusedVariables false
set_option linter.unusedSimpArgs false
namespace Go.Proofs.Ytohkngiflfkjjaa
open Go Go.E
set_option maxRecDepth 100000
set_option maxHeartbeats 16000000
/-! ### The document's answers -/
def lateB (l : List Ev) (d : Int) : Bool := inB d 0 16384 && (decide ((l.length : Int) = 0) || decide ((l.getD (l.length - 1) default).day ≤ d))
def playR (l : List Ev) : List Mem × Int × Int := if (runR l).2.2 = 0 then ((runR l).1.mem, ((runR l).2.1 : Int), 0) else ([], ((runR l).2.1 : Int), (runR l).2.2)
def whyR (l : List Ev) (p d : Int) : List Int × Int := if (runR l).2.2 = 0 then (if fnd (runR l).1.mem p < 0 then ([], 4) else if lateB l d = true then (why (runR l).1.evs ((runR l).1.mem.getD (fnd (runR l).1.mem p).toNat default) d, 0) else ([], 2)) else ([], (runR l).2.2)
def ableP (evs : List Ev) (c d : Int) (m : Mem) : Bool := decide (m.club = c) && decide (why evs m d = [])
def ableN (s : St) (c d : Int) (k : Nat) : List Int := ((s.mem.take k).filter (ableP s.evs c d)).map (·.person)
def ableR (l : List Ev) (c d : Int) : List Int × Int := if (runR l).2.2 = 0 then (if inB c 0 255 = true ∧ lateB l d = true then (ableN (runR l).1 c d (runR l).1.mem.length, 0) else ([], 2)) else ([], (runR l).2.2)
def backM (m : Mem) : Int × Int := (m.ban, if m.stage = 0 then 0 else m.since + 6 - m.stage + 1)
def backR (l : List Ev) (p : Int) : (Int × Int) × Int := if (runR l).2.2 = 0 then (if fnd (runR l).1.mem p < 0 then ((0, 0), 4) else (backM ((runR l).1.mem.getD (fnd (runR l).1.mem p).toNat default), 0)) else ((0, 0), (runR l).2.2)
/-- The state behind all events. -/
theorem runR_ok {l : List Ev} (h : ShsOk l) : (MemsOk (runR l).1.mem ∧ EvsOk (runR l).1.evs) ∧ ∀ m ∈ (runR l).1.mem, MOk 5120 m := by
  obtain ⟨j, hj, hI⟩ := runR_inv h
  refine ⟨⟨hI.ms (by omega), hI.es (by omega)⟩, fun m hm => ?_⟩
  have := hI.2.1 m hm
  unfold MOk at this ⊢
  omega
theorem ableN_yes {s : St} {c d : Int} {k : Nat} (h : k < s.mem.length) (hc : ableP s.evs c d (s.mem.getD k default) = true) : ableN s c d (k + 1) = ableN s c d k ++ [(s.mem.getD k default).person] := by
  unfold ableN
  rw [take_succ h, List.filter_append, List.map_append]
  congr 1
  simp only [List.filter_cons, hc, if_true, List.filter_nil, List.map_cons, List.map_nil]
theorem ableN_no {s : St} {c d : Int} {k : Nat} (h : k < s.mem.length) (hc : ableP s.evs c d (s.mem.getD k default) = false) : ableN s c d (k + 1) = ableN s c d k := by
  unfold ableN
  rw [take_succ h, List.filter_append, List.map_append]
  simp only [List.filter_cons, hc, Bool.false_eq_true, if_false, List.filter_nil, List.map_nil, List.append_nil]
theorem ableN_len {s : St} {c d : Int} {k : Nat} (h : k ≤ s.mem.length) : (ableN s c d k).length ≤ k := by
  unfold ableN
  rw [List.length_map]
  exact Nat.le_trans (List.length_filter_le _ _) (by simp; omega)
theorem mem_eq {a b : Mem} : (a.person == b.person && (a.club == b.club && (a.ban == b.ban && (a.stage == b.stage && a.since == b.since)))) = decide (a = b) := by
  rw [Bool.eq_iff_iff]
  simp only [Bool.and_eq_true, decide_eq_true_eq, beq_iff_eq]
  cases a; cases b; simp
def O26 : Nat → Sch := fun id => if id = 6 then .one 0 (.one 1 (.one 2 (.one 3 (.one 4 (.one 5 (.one 6 (.one 7 (.one 8 (.done))))))))) else .done
theorem O26_6 : O26 6 = .one 0 (.one 1 (.one 2 (.one 3 (.one 4 (.one 5 (.one 6 (.one 7 (.one 8 (.done))))))))) := rfl
theorem ho26 : Try.f26.body.map (okO O26) = some true := by kernel_rfl
def Cf26 : Nat → List AV → (AV → List AV → Sto → Prop) → Kt → List AV → Sto → Prop := fun f args K Q e s => match f with
  | _ => False
def Ct26 : CT := { f := Cf26, y := noYld, z := fun d => false }
theorem ctz26 {d : Nat} : CT.z Ct26 d = (false) := id rfl
theorem Ct26_ok : Ct26.ok Try.prog := ok_of_f (fun f args K Q e s h => by
  have h : Cf26 f args K Q e s := h
  unfold Cf26 at h; split at h
  · exact h.elim) (fun _ _ _ _ _ _ _ _ _ h => h)
theorem c26 : callable Try.prog 26 = true := by kernel_rfl
theorem pf26 (a b : List Int) (h : a.length ≤ 1000000) : PF Try.prog 26 [.sl 1 (a.map ic), .sl 1 (b.map ic)] (fun zz => zz = .ret (.b (decide (a = b)))) := by
  by_cases c : a.length = b.length
  case neg =>
    have c' : ¬ (a.length : Int) = b.length := by omega
    have hw : decide (a = b) = false := decide_eq_false fun h => c (by rw [h])
    rw [hw]
    refine PF_nil (PF_start (O := O26) Ct26_ok hmix ho26 Try.func26 c26 rfl Try.ntmps26 Try.results26 ?_)
    simp (maxSteps := 4000000) +contextual (disch := first | omega | exact qdb_ok (by kernel_rfl) | exact okb_ok (by kernel_rfl)) only [bw1,bw2,bw3,bw4,bw5,bw6,bw7,bc0,bc1,bc2,bc3,bc4,bc5,bc6,bc7,bb0,setPs,AV.owns,AV.datF,AV.frz,AV.cpy,ifV,isEqB,nilV,nilX,AV.isNilS,AV.isNoRows,wk,dclo,datOf,binIs,addF,AV.isPtr,idxV,AV.isSl,AV.isSlice,AV.rows,ps,pv,extV,extS,AV.outs,AV.outF,packD,AV.dl,fieldV,fieldS,AV.cells?,AV.upr,AV.menc,AV.one,D.one,Value.oneCell',tagOf,AV.isApp,strV,strS,bolV,bolS,slcV,AV.isSlD,asrtS,AV.dcells,D.cells?,stcV,stcS,leafOk,eqDs,eqD,packA,D.val?,↓reduceIte,reduceCtorEq,Nat.reduceAdd,Nat.reduceSub,Nat.reduceMul,List.reduceReplicate,Nat.reduceLeDiff,Nat.reduceLT,Nat.reduceBEq,Nat.reduceEqDiff,Int.reduceNeg,Int.reduceEq,Int.reduceLE,Int.reduceLT,tfb,ctz26,O26_6,c']
  have c' : (a.length : Int) = b.length := by omega
  refine PF_nil (PF_start (O := O26) Ct26_ok hmix ho26 Try.func26 c26 rfl Try.ntmps26 Try.results26 ?_)
  simp (maxSteps := 4000000) +contextual (disch := first | omega | exact qdb_ok (by kernel_rfl) | exact okb_ok (by kernel_rfl)) only [bw1,bw2,bw3,bw4,bw5,bw6,bw7,bc0,bc1,bc2,bc3,bc4,bc5,bc6,bc7,bb0,setPs,AV.owns,AV.datF,AV.frz,AV.cpy,ifV,isEqB,nilV,nilX,AV.isNilS,AV.isNoRows,wk,dclo,datOf,binIs,addF,AV.isPtr,idxV,AV.isSl,AV.isSlice,AV.rows,ps,pv,extV,extS,AV.outs,AV.outF,packD,AV.dl,fieldV,fieldS,AV.cells?,AV.upr,AV.menc,AV.one,D.one,Value.oneCell',tagOf,AV.isApp,strV,strS,bolV,bolS,slcV,AV.isSlD,asrtS,AV.dcells,D.cells?,stcV,stcS,leafOk,eqDs,eqD,packA,D.val?,↓reduceIte,reduceCtorEq,Nat.reduceAdd,Nat.reduceSub,Nat.reduceMul,List.reduceReplicate,Nat.reduceLeDiff,Nat.reduceLT,Nat.reduceBEq,Nat.reduceEqDiff,Int.reduceNeg,Int.reduceEq,Int.reduceLE,Int.reduceLT,tfb,ctz26,O26_6,c']
  refine loop_s (O := O26) (tb := 0) Ct26_ok hmix (by kernel_rfl) (σ := Nat) (fun i => [(5, .i i)]) (fun i => i ≤ a.length ∧ ∀ j, j < i → a.getD j default = b.getD j default) (fun i => a.length - i) (fun i => i + 1) 0 ⟨by omega, fun j h => by omega⟩ ?_ ?_
  · simp (maxSteps := 4000000) +contextual (disch := first | omega | exact qdb_ok (by kernel_rfl) | exact okb_ok (by kernel_rfl)) only [bw1,bw2,bw3,bw4,bw5,bw6,bw7,bc0,bc1,bc2,bc3,bc4,bc5,bc6,bc7,bb0,setPs,AV.owns,AV.datF,AV.frz,AV.cpy,ifV,isEqB,nilV,nilX,AV.isNilS,AV.isNoRows,wk,dclo,datOf,binIs,addF,AV.isPtr,idxV,AV.isSl,AV.isSlice,AV.rows,ps,pv,extV,extS,AV.outs,AV.outF,packD,AV.dl,fieldV,fieldS,AV.cells?,AV.upr,AV.menc,AV.one,D.one,Value.oneCell',tagOf,AV.isApp,strV,strS,bolV,bolS,slcV,AV.isSlD,asrtS,AV.dcells,D.cells?,stcV,stcS,leafOk,eqDs,eqD,packA,D.val?,↓reduceIte,reduceCtorEq,Nat.reduceAdd,Nat.reduceSub,Nat.reduceMul,List.reduceReplicate,Nat.reduceLeDiff,Nat.reduceLT,Nat.reduceBEq,Nat.reduceEqDiff,Int.reduceNeg,Int.reduceEq,Int.reduceLE,Int.reduceLT,tfb,ctz26,O26_6]
  rintro i ⟨hi, hf⟩
  by_cases hlt : i < a.length
  · have hlt' : (i : Int) < b.length := by omega
    have hlt2 : (i : Int) < a.length := by omega
    by_cases d : a.getD i default = b.getD i default
    · have hf' := upto_succ (p := fun j => a.getD j default = b.getD j default) hf d
      simp (maxSteps := 4000000) +contextual (disch := first | omega | exact qdb_ok (by kernel_rfl) | exact okb_ok (by kernel_rfl)) only [bw1,bw2,bw3,bw4,bw5,bw6,bw7,bc0,bc1,bc2,bc3,bc4,bc5,bc6,bc7,bb0,setPs,AV.owns,AV.datF,AV.frz,AV.cpy,ifV,isEqB,nilV,nilX,AV.isNilS,AV.isNoRows,wk,dclo,datOf,binIs,addF,AV.isPtr,idxV,AV.isSl,AV.isSlice,AV.rows,ps,pv,extV,extS,AV.outs,AV.outF,packD,AV.dl,fieldV,fieldS,AV.cells?,AV.upr,AV.menc,AV.one,D.one,Value.oneCell',tagOf,AV.isApp,strV,strS,bolV,bolS,slcV,AV.isSlD,asrtS,AV.dcells,D.cells?,stcV,stcS,leafOk,eqDs,eqD,packA,D.val?,↓reduceIte,reduceCtorEq,Nat.reduceAdd,Nat.reduceSub,Nat.reduceMul,List.reduceReplicate,Nat.reduceLeDiff,Nat.reduceLT,Nat.reduceBEq,Nat.reduceEqDiff,Int.reduceNeg,Int.reduceEq,Int.reduceLE,Int.reduceLT,tfb,ctz26,O26_6,eq_self, hlt', hlt2, c', d]
      and_intros <;> first | omega | exact hf'
    · have hw : decide (a = b) = false := decide_eq_false fun h => d (by rw [h])
      simp (maxSteps := 4000000) +contextual (disch := first | omega | exact qdb_ok (by kernel_rfl) | exact okb_ok (by kernel_rfl)) only [bw1,bw2,bw3,bw4,bw5,bw6,bw7,bc0,bc1,bc2,bc3,bc4,bc5,bc6,bc7,bb0,setPs,AV.owns,AV.datF,AV.frz,AV.cpy,ifV,isEqB,nilV,nilX,AV.isNilS,AV.isNoRows,wk,dclo,datOf,binIs,addF,AV.isPtr,idxV,AV.isSl,AV.isSlice,AV.rows,ps,pv,extV,extS,AV.outs,AV.outF,packD,AV.dl,fieldV,fieldS,AV.cells?,AV.upr,AV.menc,AV.one,D.one,Value.oneCell',tagOf,AV.isApp,strV,strS,bolV,bolS,slcV,AV.isSlD,asrtS,AV.dcells,D.cells?,stcV,stcS,leafOk,eqDs,eqD,packA,D.val?,↓reduceIte,reduceCtorEq,Nat.reduceAdd,Nat.reduceSub,Nat.reduceMul,List.reduceReplicate,Nat.reduceLeDiff,Nat.reduceLT,Nat.reduceBEq,Nat.reduceEqDiff,Int.reduceNeg,Int.reduceEq,Int.reduceLE,Int.reduceLT,tfb,ctz26,O26_6,eq_self, hlt', hlt2, c', d, hw]
      and_intros <;> first | omega | rfl
  · have hlt' : ¬ (i : Int) < b.length := by omega
    have hlt2 : ¬ (i : Int) < a.length := by omega
    have hw : decide (a = b) = true := decide_eq_true (List.ext_getElem c fun j h1 h2 => by
      have := hf j (by omega)
      rwa [at_lt h1, at_lt h2] at this)
    simp (maxSteps := 4000000) +contextual (disch := first | omega | exact qdb_ok (by kernel_rfl) | exact okb_ok (by kernel_rfl)) only [bw1,bw2,bw3,bw4,bw5,bw6,bw7,bc0,bc1,bc2,bc3,bc4,bc5,bc6,bc7,bb0,setPs,AV.owns,AV.datF,AV.frz,AV.cpy,ifV,isEqB,nilV,nilX,AV.isNilS,AV.isNoRows,wk,dclo,datOf,binIs,addF,AV.isPtr,idxV,AV.isSl,AV.isSlice,AV.rows,ps,pv,extV,extS,AV.outs,AV.outF,packD,AV.dl,fieldV,fieldS,AV.cells?,AV.upr,AV.menc,AV.one,D.one,Value.oneCell',tagOf,AV.isApp,strV,strS,bolV,bolS,slcV,AV.isSlD,asrtS,AV.dcells,D.cells?,stcV,stcS,leafOk,eqDs,eqD,packA,D.val?,↓reduceIte,reduceCtorEq,Nat.reduceAdd,Nat.reduceSub,Nat.reduceMul,List.reduceReplicate,Nat.reduceLeDiff,Nat.reduceLT,Nat.reduceBEq,Nat.reduceEqDiff,Int.reduceNeg,Int.reduceEq,Int.reduceLE,Int.reduceLT,tfb,ctz26,O26_6,eq_self, hlt', hlt2, c', hw]
def ent26 (args : List AV) (K : AV → List AV → Sto → Prop) (e : List AV) (s : Sto) : Prop := ent (α := (List Int) × (List Int)) (fun aa => [.sl 1 (aa.1.map ic), .sl 1 (aa.2.map ic)]) (fun aa => aa.1.length ≤ 1000000) (fun aa => .b (decide (aa.1 = aa.2))) args K e s
theorem ent26_ok {args : List AV} {K : AV → List AV → Sto → Prop} {Q : Kt} {e : List AV} {s : Sto} (h : ent26 args K e s) : pcall Try.prog 26 args K Q e s := ent_ok (fun aa h => pf26 aa.1 aa.2 h) h
theorem eq26 {a : List Int} {b : List Int} {KK : AV → List AV → Sto → Prop} {ee : List AV} {ss : Sto} : ent26 [.d (.sl 1 (a.map ic)), .d (.sl 1 (b.map ic))] KK ee ss = ((a.length ≤ 1000000) ∧ KK (.d (.b (decide (a = b)))) ee ss) := by
  unfold ent26; rw [ent_iff (a, b) (by intro b h; simpa [Prod.ext_iff, and_assoc, Int.ofNat_inj, ints_inj, evs_inj, mems_inj, ev_inj, mem_inj, st_inj] using h) rfl]; simp
theorem eqo26 {a : List Int} {b : List Int} {g1 el1 : Nat} {g2 el2 : Nat} {KK : AV → List AV → Sto → Prop} {ee : List AV} {ss : Sto} : ent26 [.own g1 el1 1 (a.map ic), .own g2 el2 1 (b.map ic)] KK ee ss = ((a.length ≤ 1000000) ∧ (.b (decide (a = b)) : D).flat = true ∧ KK (.d (.b (decide (a = b)))) ee ss) := by
  unfold ent26; rw [ent_iff (a, b) (by intro b h; simpa [Prod.ext_iff, and_assoc, Int.ofNat_inj, ints_inj, evs_inj, mems_inj, ev_inj, mem_inj, st_inj] using h) rfl]; simp
def O21 : Nat → Sch := fun id => if id = 6 then .one 0 (.one 1 (.one 2 (.one 3 (.one 4 (.one 5 (.one 6 (.one 7 (.one 8 (.done))))))))) else .done
theorem O21_6 : O21 6 = .one 0 (.one 1 (.one 2 (.one 3 (.one 4 (.one 5 (.one 6 (.one 7 (.one 8 (.done))))))))) := rfl
theorem ho21 : Try.f21.body.map (okO O21) = some true := by kernel_rfl
def Cf21 : Nat → List AV → (AV → List AV → Sto → Prop) → Kt → List AV → Sto → Prop := fun f args K Q e s => match f with
  | _ => False
def Ct21 : CT := { f := Cf21, y := noYld, z := fun d => false }
theorem ctz21 {d : Nat} : CT.z Ct21 d = (false) := id rfl
theorem Ct21_ok : Ct21.ok Try.prog := ok_of_f (fun f args K Q e s h => by
  have h : Cf21 f args K Q e s := h
  unfold Cf21 at h; split at h
  · exact h.elim) (fun _ _ _ _ _ _ _ _ _ h => h)
theorem c21 : callable Try.prog 21 = true := by kernel_rfl
theorem pf21 (a b : List Mem) (h : a.length ≤ 1000000) : PF Try.prog 21 [.sl 5 (a.map Mem.c), .sl 5 (b.map Mem.c)] (fun zz => zz = .ret (.b (decide (a = b)))) := by
  by_cases c : a.length = b.length
  case neg =>
    have c' : ¬ (a.length : Int) = b.length := by omega
    have hw : decide (a = b) = false := decide_eq_false fun h => c (by rw [h])
    rw [hw]
    refine PF_nil (PF_start (O := O21) Ct21_ok hmix ho21 Try.func21 c21 rfl Try.ntmps21 Try.results21 ?_)
    simp (maxSteps := 4000000) +contextual (disch := first | omega | exact qdb_ok (by kernel_rfl) | exact okb_ok (by kernel_rfl)) only [bw1,bw2,bw3,bw4,bw5,bw6,bw7,bc0,bc1,bc2,bc3,bc4,bc5,bc6,bc7,bb0,setPs,AV.owns,AV.datF,AV.frz,AV.cpy,ifV,isEqB,nilV,nilX,AV.isNilS,AV.isNoRows,wk,dclo,datOf,binIs,addF,AV.isPtr,idxV,AV.isSl,AV.isSlice,AV.rows,ps,pv,extV,extS,AV.outs,AV.outF,packD,AV.dl,fieldV,fieldS,AV.cells?,AV.upr,AV.menc,AV.one,D.one,Value.oneCell',tagOf,AV.isApp,strV,strS,bolV,bolS,slcV,AV.isSlD,asrtS,AV.dcells,D.cells?,stcV,stcS,leafOk,eqDs,eqD,packA,D.val?,↓reduceIte,reduceCtorEq,Nat.reduceAdd,Nat.reduceSub,Nat.reduceMul,List.reduceReplicate,Nat.reduceLeDiff,Nat.reduceLT,Nat.reduceBEq,Nat.reduceEqDiff,Int.reduceNeg,Int.reduceEq,Int.reduceLE,Int.reduceLT,tfb,ctz21,O21_6,c']
  have c' : (a.length : Int) = b.length := by omega
  refine PF_nil (PF_start (O := O21) Ct21_ok hmix ho21 Try.func21 c21 rfl Try.ntmps21 Try.results21 ?_)
  simp (maxSteps := 4000000) +contextual (disch := first | omega | exact qdb_ok (by kernel_rfl) | exact okb_ok (by kernel_rfl)) only [bw1,bw2,bw3,bw4,bw5,bw6,bw7,bc0,bc1,bc2,bc3,bc4,bc5,bc6,bc7,bb0,setPs,AV.owns,AV.datF,AV.frz,AV.cpy,ifV,isEqB,nilV,nilX,AV.isNilS,AV.isNoRows,wk,dclo,datOf,binIs,addF,AV.isPtr,idxV,AV.isSl,AV.isSlice,AV.rows,ps,pv,extV,extS,AV.outs,AV.outF,packD,AV.dl,fieldV,fieldS,AV.cells?,AV.upr,AV.menc,AV.one,D.one,Value.oneCell',tagOf,AV.isApp,strV,strS,bolV,bolS,slcV,AV.isSlD,asrtS,AV.dcells,D.cells?,stcV,stcS,leafOk,eqDs,eqD,packA,D.val?,↓reduceIte,reduceCtorEq,Nat.reduceAdd,Nat.reduceSub,Nat.reduceMul,List.reduceReplicate,Nat.reduceLeDiff,Nat.reduceLT,Nat.reduceBEq,Nat.reduceEqDiff,Int.reduceNeg,Int.reduceEq,Int.reduceLE,Int.reduceLT,tfb,ctz21,O21_6,c']
  refine loop_s (O := O21) (tb := 0) Ct21_ok hmix (by kernel_rfl) (σ := Nat) (fun i => [(5, .i i)]) (fun i => i ≤ a.length ∧ ∀ j, j < i → a.getD j default = b.getD j default) (fun i => a.length - i) (fun i => i + 1) 0 ⟨by omega, fun j h => by omega⟩ ?_ ?_
  · simp (maxSteps := 4000000) +contextual (disch := first | omega | exact qdb_ok (by kernel_rfl) | exact okb_ok (by kernel_rfl)) only [bw1,bw2,bw3,bw4,bw5,bw6,bw7,bc0,bc1,bc2,bc3,bc4,bc5,bc6,bc7,bb0,setPs,AV.owns,AV.datF,AV.frz,AV.cpy,ifV,isEqB,nilV,nilX,AV.isNilS,AV.isNoRows,wk,dclo,datOf,binIs,addF,AV.isPtr,idxV,AV.isSl,AV.isSlice,AV.rows,ps,pv,extV,extS,AV.outs,AV.outF,packD,AV.dl,fieldV,fieldS,AV.cells?,AV.upr,AV.menc,AV.one,D.one,Value.oneCell',tagOf,AV.isApp,strV,strS,bolV,bolS,slcV,AV.isSlD,asrtS,AV.dcells,D.cells?,stcV,stcS,leafOk,eqDs,eqD,packA,D.val?,↓reduceIte,reduceCtorEq,Nat.reduceAdd,Nat.reduceSub,Nat.reduceMul,List.reduceReplicate,Nat.reduceLeDiff,Nat.reduceLT,Nat.reduceBEq,Nat.reduceEqDiff,Int.reduceNeg,Int.reduceEq,Int.reduceLE,Int.reduceLT,tfb,ctz21,O21_6]
  rintro i ⟨hi, hf⟩
  by_cases hlt : i < a.length
  · have hlt' : (i : Int) < b.length := by omega
    have hlt2 : (i : Int) < a.length := by omega
    by_cases d : a.getD i default = b.getD i default
    · have hf' := upto_succ (p := fun j => a.getD j default = b.getD j default) hf d
      have e1 := mem_eq (a := a.getD i default) (b := b.getD i default)
      rw [decide_eq_true d] at e1
      simp (maxSteps := 4000000) +contextual (disch := first | omega | exact qdb_ok (by kernel_rfl) | exact okb_ok (by kernel_rfl)) only [bw1,bw2,bw3,bw4,bw5,bw6,bw7,bc0,bc1,bc2,bc3,bc4,bc5,bc6,bc7,bb0,setPs,AV.owns,AV.datF,AV.frz,AV.cpy,ifV,isEqB,nilV,nilX,AV.isNilS,AV.isNoRows,wk,dclo,datOf,binIs,addF,AV.isPtr,idxV,AV.isSl,AV.isSlice,AV.rows,ps,pv,extV,extS,AV.outs,AV.outF,packD,AV.dl,fieldV,fieldS,AV.cells?,AV.upr,AV.menc,AV.one,D.one,Value.oneCell',tagOf,AV.isApp,strV,strS,bolV,bolS,slcV,AV.isSlD,asrtS,AV.dcells,D.cells?,stcV,stcS,leafOk,eqDs,eqD,packA,D.val?,↓reduceIte,reduceCtorEq,Nat.reduceAdd,Nat.reduceSub,Nat.reduceMul,List.reduceReplicate,Nat.reduceLeDiff,Nat.reduceLT,Nat.reduceBEq,Nat.reduceEqDiff,Int.reduceNeg,Int.reduceEq,Int.reduceLE,Int.reduceLT,tfb,ctz21,O21_6,eq_self, hlt', hlt2, c', e1, d]
      and_intros <;> first | omega | exact hf'
    · have hw : decide (a = b) = false := decide_eq_false fun h => d (by rw [h])
      have e1 := mem_eq (a := a.getD i default) (b := b.getD i default)
      rw [decide_eq_false d] at e1
      simp (maxSteps := 4000000) +contextual (disch := first | omega | exact qdb_ok (by kernel_rfl) | exact okb_ok (by kernel_rfl)) only [bw1,bw2,bw3,bw4,bw5,bw6,bw7,bc0,bc1,bc2,bc3,bc4,bc5,bc6,bc7,bb0,setPs,AV.owns,AV.datF,AV.frz,AV.cpy,ifV,isEqB,nilV,nilX,AV.isNilS,AV.isNoRows,wk,dclo,datOf,binIs,addF,AV.isPtr,idxV,AV.isSl,AV.isSlice,AV.rows,ps,pv,extV,extS,AV.outs,AV.outF,packD,AV.dl,fieldV,fieldS,AV.cells?,AV.upr,AV.menc,AV.one,D.one,Value.oneCell',tagOf,AV.isApp,strV,strS,bolV,bolS,slcV,AV.isSlD,asrtS,AV.dcells,D.cells?,stcV,stcS,leafOk,eqDs,eqD,packA,D.val?,↓reduceIte,reduceCtorEq,Nat.reduceAdd,Nat.reduceSub,Nat.reduceMul,List.reduceReplicate,Nat.reduceLeDiff,Nat.reduceLT,Nat.reduceBEq,Nat.reduceEqDiff,Int.reduceNeg,Int.reduceEq,Int.reduceLE,Int.reduceLT,tfb,ctz21,O21_6,eq_self, hlt', hlt2, c', e1, hw]
      and_intros <;> first | omega | rfl
  · have hlt' : ¬ (i : Int) < b.length := by omega
    have hlt2 : ¬ (i : Int) < a.length := by omega
    have hw : decide (a = b) = true := decide_eq_true (List.ext_getElem c fun j h1 h2 => by
      have := hf j (by omega)
      rwa [at_lt h1, at_lt h2] at this)
    simp (maxSteps := 4000000) +contextual (disch := first | omega | exact qdb_ok (by kernel_rfl) | exact okb_ok (by kernel_rfl)) only [bw1,bw2,bw3,bw4,bw5,bw6,bw7,bc0,bc1,bc2,bc3,bc4,bc5,bc6,bc7,bb0,setPs,AV.owns,AV.datF,AV.frz,AV.cpy,ifV,isEqB,nilV,nilX,AV.isNilS,AV.isNoRows,wk,dclo,datOf,binIs,addF,AV.isPtr,idxV,AV.isSl,AV.isSlice,AV.rows,ps,pv,extV,extS,AV.outs,AV.outF,packD,AV.dl,fieldV,fieldS,AV.cells?,AV.upr,AV.menc,AV.one,D.one,Value.oneCell',tagOf,AV.isApp,strV,strS,bolV,bolS,slcV,AV.isSlD,asrtS,AV.dcells,D.cells?,stcV,stcS,leafOk,eqDs,eqD,packA,D.val?,↓reduceIte,reduceCtorEq,Nat.reduceAdd,Nat.reduceSub,Nat.reduceMul,List.reduceReplicate,Nat.reduceLeDiff,Nat.reduceLT,Nat.reduceBEq,Nat.reduceEqDiff,Int.reduceNeg,Int.reduceEq,Int.reduceLE,Int.reduceLT,tfb,ctz21,O21_6,eq_self, hlt', hlt2, c', hw]
def ent21 (args : List AV) (K : AV → List AV → Sto → Prop) (e : List AV) (s : Sto) : Prop := ent (α := (List Mem) × (List Mem)) (fun aa => [.sl 5 (aa.1.map Mem.c), .sl 5 (aa.2.map Mem.c)]) (fun aa => aa.1.length ≤ 1000000) (fun aa => .b (decide (aa.1 = aa.2))) args K e s
theorem ent21_ok {args : List AV} {K : AV → List AV → Sto → Prop} {Q : Kt} {e : List AV} {s : Sto} (h : ent21 args K e s) : pcall Try.prog 21 args K Q e s := ent_ok (fun aa h => pf21 aa.1 aa.2 h) h
theorem eq21 {a : List Mem} {b : List Mem} {KK : AV → List AV → Sto → Prop} {ee : List AV} {ss : Sto} : ent21 [.d (.sl 5 (a.map Mem.c)), .d (.sl 5 (b.map Mem.c))] KK ee ss = ((a.length ≤ 1000000) ∧ KK (.d (.b (decide (a = b)))) ee ss) := by
  unfold ent21; rw [ent_iff (a, b) (by intro b h; simpa [Prod.ext_iff, and_assoc, Int.ofNat_inj, ints_inj, evs_inj, mems_inj, ev_inj, mem_inj, st_inj] using h) rfl]; simp
theorem eqo21 {a : List Mem} {b : List Mem} {g1 el1 : Nat} {g2 el2 : Nat} {KK : AV → List AV → Sto → Prop} {ee : List AV} {ss : Sto} : ent21 [.own g1 el1 5 (a.map Mem.c), .own g2 el2 5 (b.map Mem.c)] KK ee ss = ((a.length ≤ 1000000) ∧ (.b (decide (a = b)) : D).flat = true ∧ KK (.d (.b (decide (a = b)))) ee ss) := by
  unfold ent21; rw [ent_iff (a, b) (by intro b h; simpa [Prod.ext_iff, and_assoc, Int.ofNat_inj, ints_inj, evs_inj, mems_inj, ev_inj, mem_inj, st_inj] using h) rfl]; simp
end Go.Proofs.Ytohkngiflfkjjaa
