/- A part of the proof that the last text ends: what functions of the program do, told by plain data. -/
import Derived.Test.YtapglfcaghlpfaaGreatZSE
set_option linter.unusedVariables false
set_option linter.unusedSimpArgs false
namespace Go.Proofs.YtapglfcaghlpfaaGreat
open Go Go.E Go.Maps
set_option maxRecDepth 100000
set_option maxHeartbeats 16000000
theorem dup_no {l : List Cal} {i : Nat} (h : ∀ j, j < i → (l.getD j default).place ≠ (l.getD i default).place) (hi : i ≤ l.length) : dupB l i = false := by
  unfold dupB
  rw [List.any_eq_false]
  intro x hx
  obtain ⟨j, hj, rfl⟩ := List.getElem_of_mem hx
  rw [List.length_take] at hj
  have := h j (by omega)
  rw [at_lt (by omega)] at this
  simpa using this
theorem dup_yes {l : List Cal} {i j : Nat} (hj : j < i) (hi : i ≤ l.length) (h : (l.getD j default).place = (l.getD i default).place) : dupB l i = true := by
  unfold dupB
  rw [List.any_eq_true]
  refine ⟨l.getD j default, ?_, by simpa using h⟩
  rw [at_lt (by omega), List.mem_take_iff_getElem]
  exact ⟨j, by omega, rfl⟩
def O36 : Nat → Sch := fun id => if id = 12 then .one 0 (.one 1 (.one 2 (.one 3 (.one 4 (.one 5 (.one 6 (.one 7 (.one 8 (.done))))))))) else .done
theorem O36_12 : O36 12 = .one 0 (.one 1 (.one 2 (.one 3 (.one 4 (.one 5 (.one 6 (.one 7 (.one 8 (.done))))))))) := rfl
theorem ho36 : Tryz.f36.body.map (okO O36) = some true := by kernel_rfl
def Cf36 : Nat → List AV → (AV → List AV → Sto → Prop) → Kt → List AV → Sto → Prop := fun f args K Q e s => match f with
  | 26 => ent26 args K e s
  | 58 => ent58 args K e s
  | _ => False
def Ct36 : CT := { f := Cf36, y := noYld, z := fun d => false }
theorem Ct36_ok : Ct36.ok Tryz.prog := ok_of_f (fun f args K Q e s h => by
  have h : Cf36 f args K Q e s := h
  unfold Cf36 at h; split at h
  · exact ent26_ok h
  · exact ent58_ok h
  · exact h.elim) (fun _ _ _ _ _ _ _ _ _ h => h)
theorem x36_26 {n : Int} {lo : Int} {hi : Int} {KK : AV → List AV → Sto → Prop} {QQ : Kt} {ii : At KK} {jj : At QQ} {ee : List AV} {ss : Sto} : xC Ct36 26 [.d (.i n), .d (.i lo), .d (.i hi)] KK QQ ii jj ee ss = (KK (.d (.b (inB n lo hi))) ee ss) := eq26
theorem x36_58 {l : List Int} {n : Int} {lo : Int} {hi : Int} {KK : AV → List AV → Sto → Prop} {QQ : Kt} {ii : At KK} {jj : At QQ} {ee : List AV} {ss : Sto} : xC Ct36 58 [.d (.sl 1 (l.map ic)), .d (.i n), .d (.i lo), .d (.i hi)] KK QQ ii jj ee ss = ((n ≤ 1000) ∧ KK (.d (.b (marksOk l n lo hi))) ee ss) := eq58
theorem c36 : callable Tryz.prog 36 = true := by kernel_rfl
theorem pf36 (r : Rul) (s : Ska) (n : Int) (h : n ≤ 1000 ∧ r.bases.length ≤ 1000) : PF Tryz.prog 36 [r.d, .agg s.c, .i n] (fun zz => zz = .ret (.b (skaOk r s n))) := by
  obtain ⟨h1, h2⟩ := h
  by_cases c1 : (16 : Int) < s.calls.length
  · have hw : skaOk r s n = false := by unfold skaOk; rw [decide_eq_false (by omega)]; rfl
    rw [hw]
    refine PF_nil (PF_start (O := O36) Ct36_ok hmix ho36 Tryz.func36 c36 rfl Tryz.ntmps36 Tryz.results36 ?_)
    simp (maxSteps := 4000000) +contextual (disch := first | omega | exact qdb_ok (by kernel_rfl) | exact okb_ok (by kernel_rfl)) only [bw1,bw2,bw3,bw4,bw5,bw6,bw7,bc0,bc1,bc2,bc3,bc4,bc5,bc6,binIs,addF,AV.isPtr,AV.isSlice,AV.rows,AV.outs,AV.outF,packD,AV.cells?,↓reduceIte,reduceCtorEq,Nat.reduceAdd,Nat.reduceSub,List.reduceReplicate,Nat.reduceLeDiff,Nat.reduceLT,Nat.reduceBEq,Nat.reduceEqDiff,Int.reduceNeg,tfb,c1]
  by_cases c2 : (5 : Int) < s.parts.length
  · have hw : skaOk r s n = false := by unfold skaOk; rw [decide_eq_false (show ¬ s.parts.length ≤ 5 by omega), Bool.and_false]; rfl
    rw [hw]
    refine PF_nil (PF_start (O := O36) Ct36_ok hmix ho36 Tryz.func36 c36 rfl Tryz.ntmps36 Tryz.results36 ?_)
    simp (maxSteps := 4000000) +contextual (disch := first | omega | exact qdb_ok (by kernel_rfl) | exact okb_ok (by kernel_rfl)) only [bw1,bw2,bw3,bw4,bw5,bw6,bw7,bc0,bc1,bc2,bc3,bc4,bc5,bc6,binIs,addF,AV.isPtr,AV.isSlice,AV.rows,AV.outs,AV.outF,packD,AV.cells?,↓reduceIte,reduceCtorEq,Nat.reduceAdd,Nat.reduceSub,List.reduceReplicate,Nat.reduceLeDiff,Nat.reduceLT,Nat.reduceBEq,Nat.reduceEqDiff,Int.reduceNeg,tfb,c1, c2]
  by_cases c3 : inB s.over 0 600 = true
  case neg =>
    have hw : skaOk r s n = false := by unfold skaOk; rw [Bool.eq_false_iff.2 c3, Bool.and_false]; rfl
    rw [hw]
    refine PF_nil (PF_start (O := O36) Ct36_ok hmix ho36 Tryz.func36 c36 rfl Tryz.ntmps36 Tryz.results36 ?_)
    simp (maxSteps := 4000000) +contextual (disch := first | omega | exact qdb_ok (by kernel_rfl) | exact okb_ok (by kernel_rfl)) only [bw1,bw2,bw3,bw4,bw5,bw6,bw7,bc0,bc1,bc2,bc3,bc4,bc5,bc6,binIs,addF,AV.isPtr,AV.isSlice,AV.rows,AV.outs,AV.outF,packD,AV.cells?,↓reduceIte,reduceCtorEq,Nat.reduceAdd,Nat.reduceSub,List.reduceReplicate,Nat.reduceLeDiff,Nat.reduceLT,Nat.reduceBEq,Nat.reduceEqDiff,Int.reduceNeg,tfb,x36_26,c1, c2, c3]
  have hw : skaOk r s n = (okN r n s.calls s.calls.length 0 && partsOk n s.parts) := by unfold skaOk; rw [c3, decide_eq_true (show s.calls.length ≤ 16 by omega), decide_eq_true (show s.parts.length ≤ 5 by omega)]; rfl
  rw [hw]
  refine PF_nil (PF_start (O := O36) Ct36_ok hmix ho36 Tryz.func36 c36 rfl Tryz.ntmps36 Tryz.results36 ?_)
  simp (maxSteps := 4000000) +contextual (disch := first | omega | exact qdb_ok (by kernel_rfl) | exact okb_ok (by kernel_rfl)) only [bw1,bw2,bw3,bw4,bw5,bw6,bw7,bc0,bc1,bc2,bc3,bc4,bc5,bc6,binIs,addF,AV.isPtr,AV.isSlice,AV.rows,AV.cells?,↓reduceIte,reduceCtorEq,Nat.reduceAdd,Nat.reduceSub,List.reduceReplicate,Nat.reduceLeDiff,Nat.reduceLT,Nat.reduceBEq,Nat.reduceEqDiff,Int.reduceNeg,tfb,x36_26,c1, c2, c3]
  refine loop_s (O := O36) (tb := 0) Ct36_ok hmix (by kernel_rfl) (σ := Nat) (fun i => [(7, .i i), (8, .any), (9, .any)]) (fun i => i ≤ s.calls.length ∧ okN r n s.calls (s.calls.length - i) i = okN r n s.calls s.calls.length 0) (fun i => s.calls.length - i) (fun i => i + 1) 0 ⟨by omega, rfl⟩ ?_ ?_
  · simp (maxSteps := 4000000) +contextual (disch := first | omega | exact qdb_ok (by kernel_rfl) | exact okb_ok (by kernel_rfl)) only [bw4,bw6,bc0,bc5,bc6,AV.isNilS,AV.isNoRows,wk,reduceCtorEq]
  rintro i ⟨hi, hk⟩
  by_cases hlt : i < s.calls.length
  · have hlt' : (i : Int) < s.calls.length := by omega
    rw [show s.calls.length - i = (s.calls.length - (i + 1)) + 1 by omega, okN] at hk
    by_cases c4 : callOk r (s.calls.getD i default) n = true
    · have c4' := c4
      unfold callOk at c4'
      simp only [Bool.and_eq_true] at c4'
      obtain ⟨d1, d2, d3, d4⟩ := c4'
      simp (maxSteps := 4000000) +contextual (disch := first | omega | exact qdb_ok (by kernel_rfl) | exact okb_ok (by kernel_rfl)) only [bw1,bw2,bw3,bw4,bw5,bw6,bw7,bc0,bc1,bc2,bc3,bc4,bc5,bc6,binIs,addF,AV.isPtr,idxV,AV.isSl,AV.isSlice,AV.rows,ps,pv,AV.cells?,AV.menc,AV.one,D.one,Value.oneCell',↓reduceIte,reduceCtorEq,Nat.reduceAdd,Nat.reduceLeDiff,Nat.reduceLT,Nat.reduceBEq,Nat.reduceEqDiff,Int.reduceNeg,tfb,x36_26,x36_58,eq_self, hlt', d1, d2, d3, d4]
      refine ⟨by omega, h1, ?_⟩
      refine loop_s (O := O36) (tb := 0) Ct36_ok hmix (by kernel_rfl) (σ := Nat) (fun k => [(9, .i k)]) (fun k => k ≤ i ∧ ∀ j, j < k → (s.calls.getD j default).place ≠ (s.calls.getD i default).place) (fun k => i - k) (fun k => k + 1) 0 ⟨by omega, fun j h => by omega⟩ ?_ ?_
      · simp (maxSteps := 4000000) +contextual (disch := first | omega | exact qdb_ok (by kernel_rfl) | exact okb_ok (by kernel_rfl)) only [bw4,bw6,bc0,bc5,bc6,AV.isNilS,AV.isNoRows,wk,reduceCtorEq]
      rintro k ⟨hk0, hkf⟩
      by_cases hkt : k < i
      · have hkt' : (k : Int) < i := by omega
        have hkl : (k : Int) < s.calls.length := by omega
        by_cases e1 : (s.calls.getD k default).place = (s.calls.getD i default).place
        · rw [dup_yes hkt (by omega) e1, if_pos rfl] at hk
          rw [← hk]
          simp (maxSteps := 4000000) +contextual (disch := first | omega | exact qdb_ok (by kernel_rfl) | exact okb_ok (by kernel_rfl)) only [bw1,bw2,bw3,bw4,bw5,bw6,bw7,bc0,bc1,bc2,bc3,bc4,bc5,bc6,bc7,binIs,addF,AV.isPtr,idxV,AV.isSl,AV.rows,ps,pv,AV.outs,AV.outF,packD,↓reduceIte,reduceCtorEq,Nat.reduceAdd,Nat.reduceLeDiff,Nat.reduceEqDiff,tfb,O36_12,eq_self, hkt', hkl, e1]
          and_intros <;> first | omega | rfl
        · have hkf' : ∀ j, j < k + 1 → (s.calls.getD j default).place ≠ (s.calls.getD i default).place := fun j hj => by
            rcases Nat.lt_or_ge j k with h | h
            · exact hkf j h
            · rw [show j = k by omega]; exact e1
          simp (maxSteps := 4000000) +contextual (disch := first | omega | exact qdb_ok (by kernel_rfl) | exact okb_ok (by kernel_rfl)) only [bw1,bw2,bw3,bw4,bw5,bw6,bw7,bc0,bc1,bc2,bc3,bc4,bc5,bc6,AV.isNilS,AV.isNoRows,wk,binIs,addF,AV.isPtr,idxV,AV.isSl,AV.rows,ps,pv,↓reduceIte,reduceCtorEq,Nat.reduceAdd,Nat.reduceLeDiff,Nat.reduceEqDiff,tfb,O36_12,eq_self, hkt', hkl, e1]
          and_intros <;> first | omega | exact hkf'
      · have hkt' : ¬ (k : Int) < i := by omega
        rw [dup_no (fun j hj => hkf j (by omega)) hi, if_neg (by decide), if_pos c4] at hk
        simp (maxSteps := 4000000) +contextual (disch := first | omega | exact qdb_ok (by kernel_rfl) | exact okb_ok (by kernel_rfl)) only [bw1,bw2,bw4,bw5,bw6,bw7,bc0,bc1,bc3,bc4,bc5,bc6,AV.isNilS,AV.isNoRows,wk,binIs,↓reduceIte,reduceCtorEq,Nat.reduceEqDiff,tfb,eq_self, hkt']
        and_intros <;> first | omega | exact hk
    · have hf : (false : Bool) = okN r n s.calls s.calls.length 0 := by
        rw [← hk]
        cases dupB s.calls i
        · rw [if_neg (by decide), if_neg c4]
        · rfl
      rw [← hf]
      unfold callOk at c4
      by_cases d1 : inB (s.calls.getD i default).place 0 99 = true
      · by_cases d2 : inB (s.calls.getD i default).elem 0 ((r.bases.length : Int) - 1) = true
        · by_cases d3 : inB (s.calls.getD i default).under 0 2 = true
          · by_cases d4 : marksOk (s.calls.getD i default).marks n (-5) 5 = true
            · exact absurd (by rw [d1, d2, d3, d4]; rfl) c4
            · simp (maxSteps := 4000000) +contextual (disch := first | omega | exact qdb_ok (by kernel_rfl) | exact okb_ok (by kernel_rfl)) only [bw1,bw2,bw3,bw4,bw5,bw6,bw7,bc0,bc1,bc2,bc3,bc4,bc5,bc6,bc7,binIs,addF,AV.isPtr,idxV,AV.isSl,AV.isSlice,AV.rows,ps,pv,AV.outs,AV.outF,packD,AV.cells?,AV.menc,AV.one,D.one,Value.oneCell',↓reduceIte,reduceCtorEq,Nat.reduceAdd,Nat.reduceLeDiff,Nat.reduceLT,Nat.reduceBEq,Nat.reduceEqDiff,Int.reduceNeg,tfb,x36_26,x36_58,eq_self, hlt', d1, d2, d3, d4]
              and_intros <;> first | omega | rfl
          · simp (maxSteps := 4000000) +contextual (disch := first | omega | exact qdb_ok (by kernel_rfl) | exact okb_ok (by kernel_rfl)) only [bw1,bw2,bw3,bw4,bw5,bw6,bw7,bc0,bc1,bc2,bc3,bc4,bc5,bc6,bc7,binIs,addF,AV.isPtr,idxV,AV.isSl,AV.isSlice,AV.rows,ps,pv,AV.outs,AV.outF,packD,AV.cells?,AV.menc,AV.one,D.one,Value.oneCell',↓reduceIte,reduceCtorEq,Nat.reduceAdd,Nat.reduceLeDiff,Nat.reduceLT,Nat.reduceBEq,Nat.reduceEqDiff,Int.reduceNeg,tfb,x36_26,eq_self, hlt', d1, d2, d3]
            and_intros <;> first | omega | rfl
        · simp (maxSteps := 4000000) +contextual (disch := first | omega | exact qdb_ok (by kernel_rfl) | exact okb_ok (by kernel_rfl)) only [bw1,bw2,bw3,bw4,bw5,bw6,bw7,bc0,bc1,bc2,bc3,bc4,bc5,bc6,bc7,binIs,addF,AV.isPtr,idxV,AV.isSl,AV.isSlice,AV.rows,ps,pv,AV.outs,AV.outF,packD,AV.cells?,AV.menc,AV.one,D.one,Value.oneCell',↓reduceIte,reduceCtorEq,Nat.reduceAdd,Nat.reduceLeDiff,Nat.reduceLT,Nat.reduceBEq,Nat.reduceEqDiff,Int.reduceNeg,tfb,x36_26,eq_self, hlt', d1, d2]
          and_intros <;> first | omega | rfl
      · simp (maxSteps := 4000000) +contextual (disch := first | omega | exact qdb_ok (by kernel_rfl) | exact okb_ok (by kernel_rfl)) only [bw1,bw2,bw3,bw4,bw5,bw6,bw7,bc0,bc1,bc2,bc3,bc4,bc5,bc6,bc7,binIs,addF,AV.isPtr,idxV,AV.isSl,AV.isSlice,AV.rows,ps,pv,AV.outs,AV.outF,packD,AV.cells?,AV.menc,AV.one,D.one,Value.oneCell',↓reduceIte,reduceCtorEq,Nat.reduceAdd,Nat.reduceLeDiff,Nat.reduceLT,Nat.reduceBEq,Nat.reduceEqDiff,Int.reduceNeg,tfb,x36_26,eq_self, hlt', d1]
        and_intros <;> first | omega | rfl
  · have hlt' : ¬ (i : Int) < s.calls.length := by omega
    rw [show s.calls.length - i = 0 by omega, okN] at hk
    rw [← hk]
    simp (maxSteps := 4000000) +contextual (disch := first | omega | exact qdb_ok (by kernel_rfl) | exact okb_ok (by kernel_rfl)) only [bw1,bw2,bw4,bw5,bw6,bw7,bc0,bc1,bc2,bc3,bc4,bc5,bc6,binIs,addF,AV.isPtr,AV.isSlice,AV.rows,↓reduceIte,reduceCtorEq,Nat.reduceAdd,Nat.reduceLeDiff,Nat.reduceEqDiff,Int.reduceNeg,tfb,eq_self, hlt']
    refine loop_s (O := O36) (tb := 0) Ct36_ok hmix (by kernel_rfl) (σ := Nat) (fun i => [(10, .i i)]) (fun i => i ≤ s.parts.length ∧ ∀ j, j < i → marksOk (s.parts.getD j default) n 0 40 = true) (fun i => s.parts.length - i) (fun i => i + 1) 0 ⟨by omega, fun j h => by omega⟩ ?_ ?_
    · simp (maxSteps := 4000000) +contextual (disch := first | omega | exact qdb_ok (by kernel_rfl) | exact okb_ok (by kernel_rfl)) only [bw4,bw6,bc0,bc5,bc6,AV.isNilS,AV.isNoRows,wk,reduceCtorEq,eq_self]
    rintro q ⟨hq0, hf⟩
    by_cases hqt : q < s.parts.length
    · have hqt' : (q : Int) < s.parts.length := by omega
      by_cases d : marksOk (s.parts.getD q default) n 0 40 = true
      · have hf' : ∀ j, j < q + 1 → marksOk (s.parts.getD j default) n 0 40 = true := fun j hj => by
          rcases Nat.lt_or_ge j q with h | h
          · exact hf j h
          · rw [show j = q by omega]; exact d
        simp (maxSteps := 4000000) +contextual (disch := first | omega | exact qdb_ok (by kernel_rfl) | exact okb_ok (by kernel_rfl)) only [bw1,bw2,bw4,bw5,bw6,bw7,bc0,bc1,bc2,bc3,bc4,bc5,bc6,AV.isNilS,AV.isNoRows,wk,binIs,addF,AV.isPtr,idxV,AV.isSl,AV.isSlice,AV.rows,ps,pv,↓reduceIte,reduceCtorEq,Nat.reduceAdd,Nat.reduceLeDiff,Nat.reduceEqDiff,tfb,x36_58,eq_self, hqt', d]
        and_intros <;> first | omega | exact hf'
      · have ha : partsOk n s.parts = false := all_no hqt (Bool.eq_false_iff.2 d)
        simp (maxSteps := 4000000) +contextual (disch := first | omega | exact qdb_ok (by kernel_rfl) | exact okb_ok (by kernel_rfl)) only [bw1,bw2,bw3,bw4,bw5,bw6,bw7,bc0,bc1,bc2,bc3,bc4,bc5,bc6,binIs,addF,AV.isPtr,idxV,AV.isSl,AV.isSlice,AV.rows,ps,pv,AV.outs,AV.outF,packD,↓reduceIte,reduceCtorEq,Nat.reduceAdd,Nat.reduceLeDiff,Nat.reduceEqDiff,tfb,x36_58,eq_self, hqt', d, ha]
        and_intros <;> first | omega | rfl
    · have hqt' : ¬ (q : Int) < s.parts.length := by omega
      have ha : partsOk n s.parts = true := all_yes fun j hj => hf j (by omega)
      simp (maxSteps := 4000000) +contextual (disch := first | omega | exact qdb_ok (by kernel_rfl) | exact okb_ok (by kernel_rfl)) only [bw1,bw2,bw3,bw4,bw5,bw6,bw7,bc0,bc1,bc2,bc3,bc4,bc5,bc6,binIs,addF,AV.isPtr,AV.isSlice,AV.rows,AV.outs,AV.outF,packD,↓reduceIte,reduceCtorEq,Nat.reduceAdd,Nat.reduceLeDiff,Nat.reduceEqDiff,tfb,eq_self, hqt', ha]
theorem jud_none {l : List Ska} : ∀ k i, (judN l k i).2 = false → ∀ j, i ≤ j → j < i + k → (l.getD j default).calls.length = 0 ∧ (l.getD j default).parts.length = 0
  | 0, i, _, j, h1, h2 => by omega
  | k + 1, i, h, j, h1, h2 => by
    unfold judN at h
    split at h
    · cases h
    · split at h
      · cases h
      · rename_i h3 h4
        rcases Nat.lt_or_ge i j with h5 | h5
        · exact jud_none k (i + 1) h j (by omega) (by omega)
        · rw [show j = i by omega]; omega
theorem skaOk_none {r : Rul} {s : Ska} {n m : Int} (h1 : s.calls.length = 0) (h2 : s.parts.length = 0) : skaOk r s n = skaOk r s m := by
  have e1 : s.calls = [] := List.length_eq_zero_iff.1 h1
  have e2 : s.parts = [] := List.length_eq_zero_iff.1 h2
  unfold skaOk
  rw [e1, e2]; rfl
def ent36 (args : List AV) (K : AV → List AV → Sto → Prop) (e : List AV) (s : Sto) : Prop := ent (α := (Rul) × (Ska) × (Int)) (fun aa => [aa.1.d, .agg aa.2.1.c, .i aa.2.2]) (fun aa => aa.2.2 ≤ 1000 ∧ aa.1.bases.length ≤ 1000) (fun aa => .b (skaOk aa.1 aa.2.1 aa.2.2)) args K e s
theorem ent36_ok {args : List AV} {K : AV → List AV → Sto → Prop} {Q : Kt} {e : List AV} {s : Sto} (h : ent36 args K e s) : pcall Tryz.prog 36 args K Q e s := ent_ok (fun aa h => pf36 aa.1 aa.2.1 aa.2.2 h) h
theorem eq36 {r : Rul} {s : Ska} {n : Int} {KK : AV → List AV → Sto → Prop} {ee : List AV} {ss : Sto} : ent36 [.d (r.d), .d (.agg s.c), .d (.i n)] KK ee ss = ((n ≤ 1000 ∧ r.bases.length ≤ 1000) ∧ KK (.d (.b (skaOk r s n))) ee ss) := by
  unfold ent36; rw [ent_iff (r, s, n) (by intro b h; simpa [Prod.ext_iff, and_assoc, Int.ofNat_inj, ints_inj, cals_inj, pcs_inj, skas_inj, scos_inj, ska_inj, rul_inj, sco_inj, cal_inj] using h) rfl]; simp
def O25 : Nat → Sch := fun id => if id = 7 then .one 0 (.one 1 (.one 2 (.one 3 (.one 4 (.one 5 (.one 6 (.one 7 (.done)))))))) else .done
theorem O25_7 : O25 7 = .one 0 (.one 1 (.one 2 (.one 3 (.one 4 (.one 5 (.one 6 (.one 7 (.done)))))))) := rfl
theorem ho25 : Tryz.f25.body.map (okO O25) = some true := by kernel_rfl
def Cf25 : Nat → List AV → (AV → List AV → Sto → Prop) → Kt → List AV → Sto → Prop := fun f args K Q e s => match f with
  | 27 => ent27 args K e s
  | 35 => ent35 args K e s
  | 36 => ent36 args K e s
  | _ => False
def Ct25 : CT := { f := Cf25, y := noYld, z := fun d => false }
theorem Ct25_ok : Ct25.ok Tryz.prog := ok_of_f (fun f args K Q e s h => by
  have h : Cf25 f args K Q e s := h
  unfold Cf25 at h; split at h
  · exact ent27_ok h
  · exact ent35_ok h
  · exact ent36_ok h
  · exact h.elim) (fun _ _ _ _ _ _ _ _ _ h => h)
theorem x25_27 {l : List Ska} {KK : AV → List AV → Sto → Prop} {QQ : Kt} {ii : At KK} {jj : At QQ} {ee : List AV} {ss : Sto} : xC Ct25 27 [.d (.sl 3 (l.map Ska.c))] KK QQ ii jj ee ss = ((l.length ≤ 1000) ∧ KK (.d (.i (if (jud l).2 = true then (jud l).1 else -1))) ee ss) := eq27
theorem x25_35 {r : Rul} {KK : AV → List AV → Sto → Prop} {QQ : Kt} {ii : At KK} {jj : At QQ} {ee : List AV} {ss : Sto} : xC Ct25 35 [.d (r.d)] KK QQ ii jj ee ss = (KK (.d (.b r.ok)) ee ss) := eq35
theorem x25_36 {r : Rul} {s : Ska} {n : Int} {KK : AV → List AV → Sto → Prop} {QQ : Kt} {ii : At KK} {jj : At QQ} {ee : List AV} {ss : Sto} : xC Ct25 36 [.d (r.d), .d (.agg s.c), .d (.i n)] KK QQ ii jj ee ss = ((n ≤ 1000 ∧ r.bases.length ≤ 1000) ∧ KK (.d (.b (skaOk r s n))) ee ss) := eq36
theorem c25 : callable Tryz.prog 25 = true := by kernel_rfl
theorem pf25 (r : Rul) (l : List Ska) (h : l.length ≤ 1000) : PF Tryz.prog 25 [r.d, .sl 3 (l.map Ska.c)] (fun zz => zz = .ret (.b (conOk r l))) := by
  by_cases c1 : r.ok = true
  case neg =>
    have hw : conOk r l = false := by unfold conOk; rw [Bool.eq_false_iff.2 c1]; rfl
    rw [hw]
    refine PF_nil (PF_start (O := O25) Ct25_ok hmix ho25 Tryz.func25 c25 rfl Tryz.ntmps25 Tryz.results25 ?_)
    simp (maxSteps := 4000000) +contextual (disch := first | omega | exact qdb_ok (by kernel_rfl) | exact okb_ok (by kernel_rfl)) only [bw1,bw2,bw3,bw5,bw6,bw7,bc0,bc1,bc2,bc3,bc4,bc5,bc6,AV.outs,AV.outF,packD,AV.dl,AV.cells?,↓reduceIte,reduceCtorEq,Nat.reduceAdd,Nat.reduceSub,List.reduceReplicate,Nat.reduceLeDiff,Nat.reduceLT,Int.reduceNeg,tfb,x25_27,x25_35,c1, h]
  have hbl : r.bases.length ≤ 1000 := by
    unfold Rul.ok at c1
    simp only [Bool.and_eq_true] at c1
    have := inB_iff.1 c1.1.1.1
    omega
  have hjb : 0 ≤ (jud l).1 ∧ ((jud l).2 = false → (jud l).1 = 0) := judN_b _ _
  have hjn : (jud l).2 = false → ∀ j, j < l.length → ∀ m, skaOk r (l.getD j default) (jud l).1 = skaOk r (l.getD j default) m := fun h j hj m => by
    have := jud_none l.length 0 h j (by omega) (by omega)
    exact skaOk_none this.1 this.2
  have hw : conOk r l = ((!(jud l).2 || inB (jud l).1 1 9) && l.all fun s => skaOk r s (jud l).1) := by unfold conOk; rw [c1, Bool.true_and]
  rw [hw]
  obtain ⟨N, hN⟩ : ∃ N, (if (jud l).2 = true then (jud l).1 else -1) = N := ⟨_, rfl⟩
  have hNs : ∀ j, j < l.length → skaOk r (l.getD j default) N = skaOk r (l.getD j default) (jud l).1 := fun j hj => by
    cases hj2 : (jud l).2
    · exact (hjn hj2 j hj N).symm
    · rw [← hN, if_pos hj2]
  have hgo : (!(jud l).2 || inB (jud l).1 1 9) = (!(N == 0) && !decide (9 < N)) := by
    rw [Bool.eq_iff_iff]
    simp only [Bool.or_eq_true, Bool.not_eq_true', Bool.and_eq_true, inB_iff, beq_eq_false_iff_ne, decide_eq_false_iff_not, ne_eq]
    rw [← hN]
    cases hj2 : (jud l).2
    · simp
    · simp; omega
  rw [hgo]
  have hall : (l.all fun s => skaOk r s (jud l).1) = l.all fun s => skaOk r s N := by
    rw [Bool.eq_iff_iff, List.all_eq_true, List.all_eq_true]
    constructor
    · intro h x hx
      obtain ⟨j, hj, rfl⟩ := List.getElem_of_mem hx
      have := h _ hx
      rw [← at_lt hj] at this ⊢
      rw [hNs j hj]; exact this
    · intro h x hx
      obtain ⟨j, hj, rfl⟩ := List.getElem_of_mem hx
      have := h _ hx
      rw [← at_lt hj] at this ⊢
      rw [← hNs j hj]; exact this
  rw [hall]
  clear hall hgo hNs hjn hw
  by_cases c2 : N = 0
  · have c2' : (N == 0) = true := by simpa using c2
    rw [c2']
    refine PF_nil (PF_start (O := O25) Ct25_ok hmix ho25 Tryz.func25 c25 rfl Tryz.ntmps25 Tryz.results25 ?_)
    simp (maxSteps := 4000000) +contextual (disch := first | omega | exact qdb_ok (by kernel_rfl) | exact okb_ok (by kernel_rfl)) only [bw1,bw2,bw3,bw5,bw6,bw7,bc0,bc1,bc2,bc3,bc4,bc5,bc6,bc7,binIs,AV.outs,AV.outF,packD,AV.dl,AV.cells?,↓reduceIte,reduceCtorEq,Nat.reduceAdd,Nat.reduceSub,List.reduceReplicate,Nat.reduceLeDiff,Nat.reduceLT,Int.reduceNeg,tfb,x25_27,x25_35,c1, h, hN, c2']
    try rfl
  have c2' : (N == 0) = false := by simpa using c2
  rw [c2']
  by_cases c3 : 9 < N
  · rw [decide_eq_true c3]
    refine PF_nil (PF_start (O := O25) Ct25_ok hmix ho25 Tryz.func25 c25 rfl Tryz.ntmps25 Tryz.results25 ?_)
    simp (maxSteps := 4000000) +contextual (disch := first | omega | exact qdb_ok (by kernel_rfl) | exact okb_ok (by kernel_rfl)) only [bw1,bw2,bw3,bw5,bw6,bw7,bc0,bc1,bc2,bc3,bc4,bc5,bc6,bc7,binIs,AV.outs,AV.outF,packD,AV.dl,AV.cells?,↓reduceIte,reduceCtorEq,Nat.reduceAdd,Nat.reduceSub,List.reduceReplicate,Nat.reduceLeDiff,Nat.reduceLT,Int.reduceNeg,tfb,x25_27,x25_35,c1, h, hN, c2', c3]
    try rfl
  rw [decide_eq_false c3]
  refine PF_nil (PF_start (O := O25) Ct25_ok hmix ho25 Tryz.func25 c25 rfl Tryz.ntmps25 Tryz.results25 ?_)
  simp (maxSteps := 4000000) +contextual (disch := first | omega | exact qdb_ok (by kernel_rfl) | exact okb_ok (by kernel_rfl)) only [bw1,bw2,bw3,bw5,bw6,bw7,bc0,bc1,bc2,bc3,bc4,bc5,bc6,binIs,AV.dl,AV.cells?,↓reduceIte,reduceCtorEq,Nat.reduceAdd,Nat.reduceSub,List.reduceReplicate,Nat.reduceLeDiff,Nat.reduceLT,Int.reduceNeg,tfb,x25_27,x25_35,c1, h, hN, c2', c3]
  refine loop_s (O := O25) (tb := 0) Ct25_ok hmix (by kernel_rfl) (σ := Nat) (fun i => [(6, .i i)]) (fun i => i ≤ l.length ∧ ∀ j, j < i → skaOk r (l.getD j default) N = true) (fun i => l.length - i) (fun i => i + 1) 0 ⟨by omega, fun j h => by omega⟩ ?_ ?_
  · simp (maxSteps := 4000000) +contextual (disch := first | omega | exact qdb_ok (by kernel_rfl) | exact okb_ok (by kernel_rfl)) only [bw4,bw6,bc0,bc5,bc6,AV.isNilS,AV.isNoRows,wk,reduceCtorEq]
  rintro i ⟨hi0, hf⟩
  by_cases hlt : i < l.length
  · have hlt' : (i : Int) < l.length := by omega
    by_cases d : skaOk r (l.getD i default) N = true
    · have hf' : ∀ j, j < i + 1 → skaOk r (l.getD j default) N = true := fun j hj => by
        rcases Nat.lt_or_ge j i with h | h
        · exact hf j h
        · rw [show j = i by omega]; exact d
      simp (maxSteps := 4000000) +contextual (disch := first | omega | exact qdb_ok (by kernel_rfl) | exact okb_ok (by kernel_rfl)) only [bw1,bw2,bw3,bw4,bw5,bw6,bw7,bc0,bc1,bc2,bc3,bc4,bc5,bc6,AV.isNilS,AV.isNoRows,wk,binIs,idxV,AV.isSl,AV.isSlice,AV.rows,ps,pv,AV.dl,↓reduceIte,reduceCtorEq,Nat.reduceAdd,Nat.reduceLeDiff,tfb,O25_7,x25_36,eq_self, hlt', d]
      and_intros <;> first | omega | exact hf'
    · have ha : (l.all fun s => skaOk r s N) = false := all_no (p := fun s => skaOk r s N) hlt (Bool.eq_false_iff.2 d)
      simp (maxSteps := 4000000) +contextual (disch := first | omega | exact qdb_ok (by kernel_rfl) | exact okb_ok (by kernel_rfl)) only [bw1,bw2,bw3,bw4,bw5,bw6,bw7,bc0,bc1,bc2,bc3,bc4,bc5,bc6,binIs,idxV,AV.isSl,AV.isSlice,AV.rows,ps,pv,AV.outs,AV.outF,packD,AV.dl,↓reduceIte,reduceCtorEq,Nat.reduceAdd,Nat.reduceLeDiff,tfb,O25_7,x25_36,eq_self, hlt', d, ha]
      and_intros <;> first | omega | rfl
  · have hlt' : ¬ (i : Int) < l.length := by omega
    have ha : (l.all fun s => skaOk r s N) = true := all_yes (p := fun s => skaOk r s N) fun j hj => hf j (by omega)
    simp (maxSteps := 4000000) +contextual (disch := first | omega | exact qdb_ok (by kernel_rfl) | exact okb_ok (by kernel_rfl)) only [bw1,bw2,bw3,bw4,bw5,bw6,bw7,bc0,bc1,bc2,bc3,bc4,bc5,bc6,binIs,AV.isSlice,AV.rows,AV.outs,AV.outF,packD,↓reduceIte,tfb,eq_self, hlt', ha]
    try rfl
def ent25 (args : List AV) (K : AV → List AV → Sto → Prop) (e : List AV) (s : Sto) : Prop := ent (α := (Rul) × (List Ska)) (fun aa => [aa.1.d, .sl 3 (aa.2.map Ska.c)]) (fun aa => aa.2.length ≤ 1000) (fun aa => .b (conOk aa.1 aa.2)) args K e s
theorem ent25_ok {args : List AV} {K : AV → List AV → Sto → Prop} {Q : Kt} {e : List AV} {s : Sto} (h : ent25 args K e s) : pcall Tryz.prog 25 args K Q e s := ent_ok (fun aa h => pf25 aa.1 aa.2 h) h
theorem eq25 {r : Rul} {l : List Ska} {KK : AV → List AV → Sto → Prop} {ee : List AV} {ss : Sto} : ent25 [.d (r.d), .d (.sl 3 (l.map Ska.c))] KK ee ss = ((l.length ≤ 1000) ∧ KK (.d (.b (conOk r l))) ee ss) := by
  unfold ent25; rw [ent_iff (r, l) (by intro b h; simpa [Prod.ext_iff, and_assoc, Int.ofNat_inj, ints_inj, cals_inj, pcs_inj, skas_inj, scos_inj, ska_inj, rul_inj, sco_inj, cal_inj] using h) rfl]; simp
end Go.Proofs.YtapglfcaghlpfaaGreat
