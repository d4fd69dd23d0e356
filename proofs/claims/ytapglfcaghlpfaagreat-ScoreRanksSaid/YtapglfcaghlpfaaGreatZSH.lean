/- A part of the proof that the last text ends: what functions of the program do, told by plain data. -/
import Derived.Test.YtapglfcaghlpfaaGreatZSG
set_option linter.unusedVariables false
set_option linter.unusedSimpArgs false
namespace Go.Proofs.YtapglfcaghlpfaaGreat
open Go Go.E Go.Maps
set_option maxRecDepth 100000
set_option maxHeartbeats 16000000
def big (s : Ska) : Bool := decide (24 < s.calls.length) || decide (12 < s.parts.length) || s.calls.any (fun x => decide (20 < x.marks.length)) || s.parts.any (fun p => decide (20 < p.length))
def great (l : List Ska) (most : Int) : Bool := decide (most < l.length) || l.any big
theorem any_yes {α : Type} [Inhabited α] {p : α → Bool} {l : List α} {j : Nat} (hj : j < l.length) (h : p (l.getD j default) = true) : l.any p = true := by
  rw [List.any_eq_true]
  exact ⟨_, List.getElem_mem hj, by rw [← at_lt hj, h]⟩
theorem any_not {α : Type} [Inhabited α] {p : α → Bool} {l : List α} (h : ∀ j, j < l.length → p (l.getD j default) = false) : l.any p = false := by
  rw [List.any_eq_false]
  intro x hx
  obtain ⟨j, hj, rfl⟩ := List.getElem_of_mem hx
  have := h j hj
  rw [at_lt hj] at this
  simp [this]
theorem great_yes {l : List Ska} {most : Int} {j : Nat} (hj : j < l.length) (h : big (l.getD j default) = true) : great l most = true := by
  unfold great; rw [any_yes hj h, Bool.or_true]
def O4 : Nat → Sch := fun id => .done
theorem ho4 : Tryz.f4.body.map (okO O4) = some true := by kernel_rfl
def Cf4 : Nat → List AV → (AV → List AV → Sto → Prop) → Kt → List AV → Sto → Prop := fun f args K Q e s => match f with
  | _ => False
def Ct4 : CT := { f := Cf4, y := noYld, z := fun d => false }
theorem Ct4_ok : Ct4.ok Tryz.prog := ok_of_f (fun f args K Q e s h => by
  have h : Cf4 f args K Q e s := h
  unfold Cf4 at h; split at h
  · exact h.elim) (fun _ _ _ _ _ _ _ _ _ h => h)
theorem c4 : callable Tryz.prog 4 = true := by kernel_rfl
theorem pf4 (l : List Ska) (most : Int) (h : 0 ≤ most ∧ most ≤ 1000) : PF Tryz.prog 4 [.sl 3 (l.map Ska.c), .i most] (fun zz => zz = .ret (.b (great l most))) := by
  obtain ⟨h0, h1⟩ := h
  refine PF_nil (PF_start (O := O4) Ct4_ok hmix ho4 Tryz.func4 c4 rfl Tryz.ntmps4 Tryz.results4 ?_)
  simp (maxSteps := 4000000) +contextual (disch := first | omega | exact qdb_ok (by kernel_rfl) | exact okb_ok (by kernel_rfl)) only [bw1,bw2,bw5,bw6,bc4,bc5,Nat.reduceAdd,Nat.reduceSub,List.reduceReplicate]
  refine loop_s (O := O4) (tb := 0) Ct4_ok hmix (by kernel_rfl) (σ := Nat) (fun i => [(5, .i i), (7, .any), (9, .any)]) (fun i => (i ≤ l.length ∧ (i : Int) ≤ most + 1) ∧ ∀ j, j < i → big (l.getD j default) = false) (fun i => l.length - i) (fun i => i + 1) 0 ⟨by omega, fun j h => by omega⟩ ?_ ?_
  · simp (maxSteps := 4000000) +contextual (disch := first | omega | exact qdb_ok (by kernel_rfl) | exact okb_ok (by kernel_rfl)) only [bw4,bw6,bc0,bc5,bc6,AV.isNilS,AV.isNoRows,wk,reduceCtorEq]
  rintro i ⟨⟨hi0, hi1⟩, hf⟩
  by_cases hlt : i < l.length
  case neg =>
    have hlt' : ¬ (i : Int) < l.length := by omega
    have hw : great l most = decide (most < l.length) := by unfold great; rw [any_not fun j hj => hf j (by omega), Bool.or_false]
    rw [hw]
    simp (maxSteps := 4000000) +contextual (disch := first | omega | exact qdb_ok (by kernel_rfl) | exact okb_ok (by kernel_rfl)) only [bw1,bw2,bw3,bw4,bw5,bw6,bw7,bc0,bc1,bc2,bc3,bc4,bc5,bc6,binIs,AV.isSlice,AV.rows,AV.outs,AV.outF,packD,↓reduceIte,tfb,eq_self, hlt']
  have hlt' : (i : Int) < l.length := by omega
  by_cases hle : (i : Int) ≤ most
  case neg =>
    have c1 : most < (l.length : Int) := by omega
    have hw : great l most = true := by unfold great; rw [decide_eq_true c1]; rfl
    rw [hw]
    simp (maxSteps := 4000000) +contextual (disch := first | omega | exact qdb_ok (by kernel_rfl) | exact okb_ok (by kernel_rfl)) only [bw1,bw2,bw3,bw4,bw5,bw6,bw7,bc0,bc1,bc2,bc3,bc4,bc5,bc6,binIs,AV.isSlice,AV.rows,AV.outs,AV.outF,packD,↓reduceIte,tfb,eq_self, hlt', hle, c1]
  have hgr := fun h => great_yes (most := most) hlt h
  have hlen : l.length = l.length := rfl
  have hbg : big (l.getD i default) = (decide (24 < (l.getD i default).calls.length) || decide (12 < (l.getD i default).parts.length) || (l.getD i default).calls.any (fun x => decide (20 < x.marks.length)) || (l.getD i default).parts.any (fun p => decide (20 < p.length))) := rfl
  by_cases c1 : 24 < (l.getD i default).calls.length
  · have c1' : (24 : Int) < (l.getD i default).calls.length := by omega
    rw [hgr (by rw [hbg, decide_eq_true c1]; rfl)]
    simp (maxSteps := 4000000) +contextual (disch := first | omega | exact qdb_ok (by kernel_rfl) | exact okb_ok (by kernel_rfl)) only [bw1,bw2,bw3,bw4,bw5,bw6,bw7,bc0,bc1,bc2,bc3,bc4,bc5,bc6,binIs,addF,AV.isPtr,idxV,AV.isSl,AV.isSlice,AV.rows,ps,pv,AV.outs,AV.outF,packD,↓reduceIte,Nat.reduceAdd,Nat.reduceLeDiff,tfb,eq_self, hlt', hle, c1']
    try omega
  have c1' : ¬ (24 : Int) < (l.getD i default).calls.length := by omega
  by_cases c2 : 12 < (l.getD i default).parts.length
  · have c2' : (12 : Int) < (l.getD i default).parts.length := by omega
    rw [hgr (by rw [hbg, decide_eq_true c2, Bool.or_true]; rfl)]
    simp (maxSteps := 4000000) +contextual (disch := first | omega | exact qdb_ok (by kernel_rfl) | exact okb_ok (by kernel_rfl)) only [bw1,bw2,bw3,bw4,bw5,bw6,bw7,bc0,bc1,bc2,bc3,bc4,bc5,bc6,binIs,addF,AV.isPtr,idxV,AV.isSl,AV.isSlice,AV.rows,ps,pv,AV.outs,AV.outF,packD,↓reduceIte,Nat.reduceAdd,Nat.reduceLeDiff,tfb,eq_self, hlt', hle, c1', c2']
    try omega
  have c2' : ¬ (12 : Int) < (l.getD i default).parts.length := by omega
  rw [decide_eq_false c1, decide_eq_false c2, Bool.false_or, Bool.false_or] at hbg
  generalize hs : l.getD i default = s at c1 c2 c1' c2' hbg hgr
  have hsc : (l.getD i default).calls = s.calls := by rw [hs]
  have hsp : (l.getD i default).parts = s.parts := by rw [hs]
  simp (maxSteps := 4000000) +contextual (disch := first | omega | exact qdb_ok (by kernel_rfl) | exact okb_ok (by kernel_rfl)) only [bw1,bw2,bw3,bw4,bw5,bw6,bw7,bc0,bc1,bc2,bc4,bc5,bc6,binIs,addF,AV.isPtr,idxV,AV.isSl,AV.isSlice,AV.rows,ps,pv,↓reduceIte,Nat.reduceAdd,Nat.reduceLeDiff,tfb,eq_self, hlt', hle, hsc, hsp, c1', c2']
  refine ⟨by omega, by omega, by omega, ?_⟩
  refine loop_s (O := O4) (tb := 0) Ct4_ok hmix (by kernel_rfl) (σ := Nat) (fun k => [(7, .any), (43, .i k)]) (fun k => k ≤ s.calls.length ∧ ∀ j, j < k → decide (20 < (s.calls.getD j default).marks.length) = false) (fun k => s.calls.length - k) (fun k => k + 1) 0 ⟨by omega, fun j h => by omega⟩ ?_ ?_
  · simp (maxSteps := 4000000) +contextual (disch := first | omega | exact qdb_ok (by kernel_rfl) | exact okb_ok (by kernel_rfl)) only [bw4,bw6,bc0,bc5,bc6,AV.isNilS,AV.isNoRows,wk,reduceCtorEq]
  rintro k ⟨hk0, hkf⟩
  by_cases hkt : k < s.calls.length
  · have hkt' : (k : Int) < s.calls.length := by omega
    by_cases e1 : 20 < (s.calls.getD k default).marks.length
    · have e1' : (20 : Int) < (s.calls.getD k default).marks.length := by omega
      rw [hgr (by rw [hbg, any_yes (p := fun x : Cal => decide (20 < x.marks.length)) hkt (decide_eq_true e1)]; rfl)]
      simp (maxSteps := 4000000) +contextual (disch := first | omega | exact qdb_ok (by kernel_rfl) | exact okb_ok (by kernel_rfl)) only [bw1,bw2,bw3,bw4,bw5,bw6,bw7,bc0,bc1,bc2,bc3,bc4,bc5,bc6,binIs,addF,AV.isPtr,idxV,AV.isSl,AV.isSlice,AV.rows,ps,pv,AV.outs,AV.outF,packD,AV.cells?,AV.menc,AV.one,D.one,Value.oneCell',↓reduceIte,reduceCtorEq,Nat.reduceAdd,Nat.reduceLeDiff,Nat.reduceLT,tfb,eq_self, hkt', e1']
      try omega
    · have e1' : ¬ (20 : Int) < (s.calls.getD k default).marks.length := by omega
      have hkf' : ∀ j, j < k + 1 → decide (20 < (s.calls.getD j default).marks.length) = false := fun j hj => by
        rcases Nat.lt_or_ge j k with h | h
        · exact hkf j h
        · rw [show j = k by omega]; exact decide_eq_false e1
      simp (maxSteps := 4000000) +contextual (disch := first | omega | exact qdb_ok (by kernel_rfl) | exact okb_ok (by kernel_rfl)) only [bw1,bw2,bw4,bw5,bw6,bw7,bc0,bc1,bc2,bc3,bc4,bc5,bc6,AV.isNilS,AV.isNoRows,wk,binIs,addF,AV.isPtr,idxV,AV.isSl,AV.isSlice,AV.rows,ps,pv,AV.cells?,AV.menc,AV.one,D.one,Value.oneCell',↓reduceIte,reduceCtorEq,Nat.reduceAdd,Nat.reduceLeDiff,Nat.reduceLT,tfb,eq_self, hkt', e1']
      and_intros <;> first | omega | exact hkf'
  have hkt' : ¬ (k : Int) < s.calls.length := by omega
  rw [any_not (p := fun x : Cal => decide (20 < x.marks.length)) fun j hj => hkf j (by omega), Bool.false_or] at hbg
  simp (maxSteps := 4000000) +contextual (disch := first | omega | exact qdb_ok (by kernel_rfl) | exact okb_ok (by kernel_rfl)) only [bw1,bw2,bw4,bw5,bw6,bw7,bc0,bc1,bc2,bc4,bc5,bc6,binIs,addF,AV.isPtr,idxV,AV.isSl,AV.isSlice,AV.rows,ps,pv,↓reduceIte,Nat.reduceAdd,Nat.reduceLeDiff,tfb,eq_self, hkt', hsp]
  refine ⟨by omega, ?_⟩
  refine loop_s (O := O4) (tb := 0) Ct4_ok hmix (by kernel_rfl) (σ := Nat) (fun k => [(9, .any), (58, .i k)]) (fun k => k ≤ s.parts.length ∧ ∀ j, j < k → decide (20 < (s.parts.getD j default).length) = false) (fun k => s.parts.length - k) (fun k => k + 1) 0 ⟨by omega, fun j h => by omega⟩ ?_ ?_
  · simp (maxSteps := 4000000) +contextual (disch := first | omega | exact qdb_ok (by kernel_rfl) | exact okb_ok (by kernel_rfl)) only [bw4,bw6,bc0,bc5,bc6,AV.isNilS,AV.isNoRows,wk,reduceCtorEq]
  rintro q ⟨hq0, hqf⟩
  by_cases hqt : q < s.parts.length
  · have hqt' : (q : Int) < s.parts.length := by omega
    by_cases e1 : 20 < (s.parts.getD q default).length
    · have e1' : (20 : Int) < (s.parts.getD q default).length := by omega
      rw [hgr (by rw [hbg, any_yes (p := fun p : List Int => decide (20 < p.length)) hqt (decide_eq_true e1)])]
      simp (maxSteps := 4000000) +contextual (disch := first | omega | exact qdb_ok (by kernel_rfl) | exact okb_ok (by kernel_rfl)) only [bw1,bw2,bw3,bw4,bw5,bw6,bw7,bc0,bc1,bc2,bc3,bc4,bc5,bc6,binIs,idxV,AV.isSl,AV.isSlice,AV.rows,ps,pv,AV.outs,AV.outF,packD,↓reduceIte,Nat.reduceLeDiff,tfb,eq_self, hqt', e1']
      try omega
    · have e1' : ¬ (20 : Int) < (s.parts.getD q default).length := by omega
      have hqf' : ∀ j, j < q + 1 → decide (20 < (s.parts.getD j default).length) = false := fun j hj => by
        rcases Nat.lt_or_ge j q with h | h
        · exact hqf j h
        · rw [show j = q by omega]; exact decide_eq_false e1
      simp (maxSteps := 4000000) +contextual (disch := first | omega | exact qdb_ok (by kernel_rfl) | exact okb_ok (by kernel_rfl)) only [bw1,bw2,bw4,bw5,bw6,bw7,bc0,bc1,bc2,bc3,bc4,bc5,bc6,AV.isNilS,AV.isNoRows,wk,binIs,idxV,AV.isSl,AV.isSlice,AV.rows,ps,pv,↓reduceIte,reduceCtorEq,Nat.reduceLeDiff,tfb,eq_self, hqt', e1']
      and_intros <;> first | omega | exact hqf'
  have hqt' : ¬ (q : Int) < s.parts.length := by omega
  rw [any_not (p := fun p : List Int => decide (20 < p.length)) fun j hj => hqf j (by omega)] at hbg
  have hf' : ∀ j, j < i + 1 → big (l.getD j default) = false := fun j hj => by
    rcases Nat.lt_or_ge j i with h | h
    · exact hf j h
    · rw [show j = i by omega, hs]; exact hbg
  simp (maxSteps := 4000000) +contextual (disch := first | omega | exact qdb_ok (by kernel_rfl) | exact okb_ok (by kernel_rfl)) only [bw1,bw2,bw4,bw5,bw6,bw7,bc0,bc1,bc3,bc4,bc5,bc6,AV.isNilS,AV.isNoRows,wk,binIs,↓reduceIte,reduceCtorEq,tfb,eq_self, hqt']
  and_intros <;> first | omega | exact hf'
def ent4 (args : List AV) (K : AV → List AV → Sto → Prop) (e : List AV) (s : Sto) : Prop := ent (α := (List Ska) × (Int)) (fun aa => [.sl 3 (aa.1.map Ska.c), .i aa.2]) (fun aa => 0 ≤ aa.2 ∧ aa.2 ≤ 1000) (fun aa => .b (great aa.1 aa.2)) args K e s
theorem ent4_ok {args : List AV} {K : AV → List AV → Sto → Prop} {Q : Kt} {e : List AV} {s : Sto} (h : ent4 args K e s) : pcall Tryz.prog 4 args K Q e s := ent_ok (fun aa h => pf4 aa.1 aa.2 h) h
theorem eq4 {l : List Ska} {most : Int} {KK : AV → List AV → Sto → Prop} {ee : List AV} {ss : Sto} : ent4 [.d (.sl 3 (l.map Ska.c)), .d (.i most)] KK ee ss = ((0 ≤ most ∧ most ≤ 1000) ∧ KK (.d (.b (great l most))) ee ss) := by
  unfold ent4; rw [ent_iff (l, most) (by intro b h; simpa [Prod.ext_iff, and_assoc, Int.ofNat_inj, ints_inj, cals_inj, pcs_inj, skas_inj, scos_inj, ska_inj, rul_inj, sco_inj, cal_inj] using h) rfl]; simp
end Go.Proofs.YtapglfcaghlpfaaGreat
