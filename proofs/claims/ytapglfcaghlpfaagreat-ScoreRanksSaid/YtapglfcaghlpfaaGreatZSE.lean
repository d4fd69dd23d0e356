/- A part of the proof that the last text ends: what functions of the program do, told by plain data. -/
import Derived.Test.YtapglfcaghlpfaaGreatZSD
set_option linter.unusedVariables false
set_option linter.unusedSimpArgs false
namespace Go.Proofs.YtapglfcaghlpfaaGreat
open Go Go.E Go.Maps
set_option maxRecDepth 100000
set_option maxHeartbeats 16000000
def O35 : Nat → Sch := fun id => .done
theorem ho35 : Tryz.f35.body.map (okO O35) = some true := by kernel_rfl
def Cf35 : Nat → List AV → (AV → List AV → Sto → Prop) → Kt → List AV → Sto → Prop := fun f args K Q e s => match f with
  | 26 => ent26 args K e s
  | _ => False
def Ct35 : CT := { f := Cf35, y := noYld, z := fun d => false }
theorem Ct35_ok : Ct35.ok Tryz.prog := ok_of_f (fun f args K Q e s h => by
  have h : Cf35 f args K Q e s := h
  unfold Cf35 at h; split at h
  · exact ent26_ok h
  · exact h.elim) (fun _ _ _ _ _ _ _ _ _ h => h)
theorem x35_26 {n : Int} {lo : Int} {hi : Int} {KK : AV → List AV → Sto → Prop} {QQ : Kt} {ii : At KK} {jj : At QQ} {ee : List AV} {ss : Sto} : xC Ct35 26 [.d (.i n), .d (.i lo), .d (.i hi)] KK QQ ii jj ee ss = (KK (.d (.b (inB n lo hi))) ee ss) := eq26
theorem c35 : callable Tryz.prog 35 = true := by kernel_rfl
theorem pf35 (r : Rul) : PF Tryz.prog 35 [r.d] (fun zz => zz = .ret (.b r.ok)) := by
  refine PF_nil (PF_start (O := O35) Ct35_ok hmix ho35 Tryz.func35 c35 rfl Tryz.ntmps35 Tryz.results35 ?_)
  simp (maxSteps := 4000000) +contextual (disch := first | omega | exact qdb_ok (by kernel_rfl) | exact okb_ok (by kernel_rfl)) only [bw1,bw2,bw5,bw6,bc3,bc4,bc5,bc6,AV.cells?,↓reduceIte,reduceCtorEq,Nat.reduceAdd,Nat.reduceSub,List.reduceReplicate,Nat.reduceLT]
  refine loop_s (O := O35) (tb := 0) Ct35_ok hmix (by kernel_rfl) (σ := Nat) (fun i => [(3, .i i)]) (fun i => (i ≤ r.bases.length ∧ i ≤ 65) ∧ ∀ j, j < i → inB (r.bases.getD j default) 0 2000 = true) (fun i => r.bases.length - i) (fun i => i + 1) 0 ⟨by omega, fun j h => by omega⟩ ?_ ?_
  · simp (maxSteps := 4000000) +contextual (disch := first | omega | exact qdb_ok (by kernel_rfl) | exact okb_ok (by kernel_rfl)) only [bw4,bw6,bc0,bc5,bc6,AV.isNilS,AV.isNoRows,wk,reduceCtorEq]
  rintro i ⟨⟨hi0, hi1⟩, hf⟩
  by_cases hlt : i < r.bases.length ∧ i ≤ 64
  · obtain ⟨hlt, hle⟩ := hlt
    have hlt' : (i : Int) < r.bases.length := by omega
    have hle' : (i : Int) ≤ 64 := by omega
    by_cases d : inB (r.bases.getD i default) 0 2000 = true
    · have hf' : ∀ j, j < i + 1 → inB (r.bases.getD j default) 0 2000 = true := fun j hj => by
        rcases Nat.lt_or_ge j i with h | h
        · exact hf j h
        · rw [show j = i by omega]; exact d
      simp (maxSteps := 4000000) +contextual (disch := first | omega | exact qdb_ok (by kernel_rfl) | exact okb_ok (by kernel_rfl)) only [bw1,bw2,bw3,bw4,bw5,bw6,bw7,bc0,bc1,bc2,bc3,bc4,bc5,bc6,AV.isNilS,AV.isNoRows,wk,binIs,addF,AV.isPtr,idxV,AV.isSl,AV.isSlice,AV.rows,ps,pv,↓reduceIte,reduceCtorEq,Nat.reduceAdd,Nat.reduceLeDiff,tfb,x35_26,eq_self, hlt', hle', d]
      and_intros <;> first | omega | exact hf'
    · have d' := Bool.eq_false_iff.2 d
      have ha : allB r.bases 0 2000 = false := all_no hlt d'
      have hw : r.ok = false := by unfold Rul.ok; rw [ha]; simp
      rw [hw]
      simp (maxSteps := 4000000) +contextual (disch := first | omega | exact qdb_ok (by kernel_rfl) | exact okb_ok (by kernel_rfl)) only [bw1,bw2,bw3,bw4,bw5,bw6,bw7,bc0,bc1,bc2,bc3,bc4,bc5,bc6,binIs,addF,AV.isPtr,idxV,AV.isSl,AV.isSlice,AV.rows,ps,pv,AV.outs,AV.outF,packD,↓reduceIte,reduceCtorEq,Nat.reduceAdd,Nat.reduceLeDiff,tfb,x35_26,eq_self, hlt', hle', d]
      try omega
  by_cases hlt2 : i < r.bases.length
  · have hlt' : (i : Int) < r.bases.length := by omega
    have hle' : ¬ (i : Int) ≤ 64 := by omega
    have c1 : inB (r.bases.length : Int) 1 64 = false := inB_no.2 (by omega)
    have hw : r.ok = false := by unfold Rul.ok; rw [c1]; rfl
    rw [hw]
    simp (maxSteps := 4000000) +contextual (disch := first | omega | exact qdb_ok (by kernel_rfl) | exact okb_ok (by kernel_rfl)) only [bw1,bw2,bw3,bw4,bw5,bw6,bw7,bc0,bc1,bc2,bc3,bc4,bc5,bc6,binIs,addF,AV.isPtr,AV.isSlice,AV.rows,AV.outs,AV.outF,packD,↓reduceIte,reduceCtorEq,Nat.reduceAdd,Nat.reduceLeDiff,tfb,x35_26,eq_self, hlt', hle', c1]
  have hlt' : ¬ (i : Int) < r.bases.length := by omega
  have ha : allB r.bases 0 2000 = true := all_yes fun j hj => hf j (by omega)
  unfold Rul.ok
  rw [ha]
  by_cases c1 : inB (r.bases.length : Int) 1 64 = true
  · by_cases c2 : inB r.factor 0 1000 = true
    · simp (maxSteps := 4000000) +contextual (disch := first | omega | exact qdb_ok (by kernel_rfl) | exact okb_ok (by kernel_rfl)) only [bw1,bw2,bw3,bw4,bw5,bw6,bw7,bc0,bc1,bc2,bc3,bc4,bc5,bc6,binIs,addF,AV.isPtr,AV.isSlice,AV.rows,AV.outs,AV.outF,packD,↓reduceIte,reduceCtorEq,Nat.reduceAdd,Nat.reduceLeDiff,tfb,x35_26,eq_self, hlt', c1, c2]
    · have c2 := Bool.eq_false_iff.2 c2
      simp (maxSteps := 4000000) +contextual (disch := first | omega | exact qdb_ok (by kernel_rfl) | exact okb_ok (by kernel_rfl)) only [bw1,bw2,bw3,bw4,bw5,bw6,bw7,bc0,bc1,bc2,bc3,bc4,bc5,bc6,bc7,binIs,addF,AV.isPtr,AV.isSlice,AV.rows,AV.outs,AV.outF,packD,↓reduceIte,reduceCtorEq,Nat.reduceAdd,Nat.reduceLeDiff,tfb,x35_26,eq_self, hlt', c1, c2]
      try rfl
  · have c1 := Bool.eq_false_iff.2 c1
    simp (maxSteps := 4000000) +contextual (disch := first | omega | exact qdb_ok (by kernel_rfl) | exact okb_ok (by kernel_rfl)) only [bw1,bw2,bw3,bw4,bw5,bw6,bw7,bc0,bc1,bc2,bc3,bc4,bc5,bc6,bc7,binIs,addF,AV.isPtr,AV.isSlice,AV.rows,AV.outs,AV.outF,packD,↓reduceIte,reduceCtorEq,Nat.reduceAdd,Nat.reduceLeDiff,tfb,x35_26,eq_self, hlt', c1]
    try rfl
def conOk (r : Rul) (l : List Ska) : Bool := r.ok && (!(jud l).2 || inB (jud l).1 1 9) && l.all fun s => skaOk r s (jud l).1
theorem judN_b {l : List Ska} : ∀ k i, 0 ≤ (judN l k i).1 ∧ ((judN l k i).2 = false → (judN l k i).1 = 0)
  | 0, _ => by unfold judN; simp
  | k + 1, i => by
    unfold judN
    split
    · simp only; exact ⟨by omega, fun h => by cases h⟩
    · split
      · simp only; exact ⟨by omega, fun h => by cases h⟩
      · exact judN_b k (i + 1)
def ent35 (args : List AV) (K : AV → List AV → Sto → Prop) (e : List AV) (s : Sto) : Prop := ent (α := (Rul)) (fun aa => [aa.d]) (fun aa => True) (fun aa => .b aa.ok) args K e s
theorem ent35_ok {args : List AV} {K : AV → List AV → Sto → Prop} {Q : Kt} {e : List AV} {s : Sto} (h : ent35 args K e s) : pcall Tryz.prog 35 args K Q e s := ent_ok (fun aa h => pf35 aa) h
theorem eq35 {r : Rul} {KK : AV → List AV → Sto → Prop} {ee : List AV} {ss : Sto} : ent35 [.d (r.d)] KK ee ss = (KK (.d (.b r.ok)) ee ss) := by
  unfold ent35; rw [ent_iff r (by intro b h; simpa [Prod.ext_iff, and_assoc, Int.ofNat_inj, ints_inj, cals_inj, pcs_inj, skas_inj, scos_inj, ska_inj, rul_inj, sco_inj, cal_inj] using h) rfl]; simp
def O30 : Nat → Sch := fun id => .done
theorem ho30 : Tryz.f30.body.map (okO O30) = some true := by kernel_rfl
def Cf30 : Nat → List AV → (AV → List AV → Sto → Prop) → Kt → List AV → Sto → Prop := fun f args K Q e s => match f with
  | 22 => ent22 args K e s
  | 23 => ent23 args K e s
  | 41 => ent41 args K e s
  | 42 => ent42 args K e s
  | _ => False
def Ct30 : CT := { f := Cf30, y := noYld, z := fun d => false }
theorem Ct30_ok : Ct30.ok Tryz.prog := ok_of_f (fun f args K Q e s h => by
  have h : Cf30 f args K Q e s := h
  unfold Cf30 at h; split at h
  · exact ent22_ok h
  · exact ent23_ok h
  · exact ent41_ok h
  · exact ent42_ok h
  · exact h.elim) (fun _ _ _ _ _ _ _ _ _ h => h)
theorem x30_22 {l : List Ska} {KK : AV → List AV → Sto → Prop} {QQ : Kt} {ii : At KK} {jj : At QQ} {ee : List AV} {ss : Sto} : xC Ct30 22 [.d (.sl 3 (l.map Ska.c))] KK QQ ii jj ee ss = ((l.length ≤ 1000) ∧ KK (.d (.tup [.i (jud l).1, .b (jud l).2])) ee ss) := eq22
theorem x30_23 {n : Int} {lo : Int} {hi : Int} {KK : AV → List AV → Sto → Prop} {QQ : Kt} {ii : At KK} {jj : At QQ} {ee : List AV} {ss : Sto} : xC Ct30 23 [.d (.i n), .d (.i lo), .d (.i hi)] KK QQ ii jj ee ss = (KK (.d (.b (inB n lo hi))) ee ss) := eq23
theorem x30_41 {r : Rul} {KK : AV → List AV → Sto → Prop} {QQ : Kt} {ii : At KK} {jj : At QQ} {ee : List AV} {ss : Sto} : xC Ct30 41 [.d (r.d)] KK QQ ii jj ee ss = (KK (.d (.b r.ok)) ee ss) := eq41
theorem x30_42 {r : Rul} {s : Ska} {n : Int} {KK : AV → List AV → Sto → Prop} {QQ : Kt} {ii : At KK} {jj : At QQ} {ee : List AV} {ss : Sto} : xC Ct30 42 [.d (r.d), .d (.agg s.c), .d (.i n)] KK QQ ii jj ee ss = (((n ≤ 1000 ∧ r.bases.length ≤ 1000) ∧ ∀ x ∈ s.calls, i64 x.place) ∧ KK (.d (.b (skaOk r s n))) ee ss) := eq42
theorem c30 : callable Tryz.prog 30 = true := by kernel_rfl
theorem pf30 (r : Rul) (l : List Ska) (h : l.length ≤ 1000 ∧ ∀ s ∈ l, ∀ x ∈ s.calls, i64 x.place) : PF Tryz.prog 30 [r.d, .sl 3 (l.map Ska.c)] (fun zz => zz = .ret (.b (conOk r l))) := by
  obtain ⟨h1, h2⟩ := h
  by_cases c1 : r.ok = true
  case neg =>
    have hw : conOk r l = false := by unfold conOk; rw [Bool.eq_false_iff.2 c1]; rfl
    rw [hw]
    refine PF_nil (PF_start (O := O30) Ct30_ok hmix ho30 Tryz.func30 c30 rfl Tryz.ntmps30 Tryz.results30 ?_)
    simp (maxSteps := 4000000) +contextual (disch := first | omega | exact qdb_ok (by kernel_rfl) | exact okb_ok (by kernel_rfl)) only [bw1,bw2,bw3,bw5,bw6,bw7,bc0,bc1,bc2,bc3,bc4,bc5,bc6,extV,extS,AV.outs,AV.outF,packD,AV.dl,AV.cells?,↓reduceIte,reduceCtorEq,Nat.reduceAdd,Nat.reduceSub,List.reduceReplicate,Nat.reduceLeDiff,Nat.reduceLT,tfb,x30_22,x30_41,c1, h1]
  have hjb : 0 ≤ (jud l).1 ∧ ((jud l).2 = false → (jud l).1 = 0) := judN_b _ _
  have hw : conOk r l = ((!(jud l).2 || inB (jud l).1 1 9) && l.all fun s => skaOk r s (jud l).1) := by unfold conOk; rw [c1, Bool.true_and]
  have hbl : r.bases.length ≤ 1000 := by
    unfold Rul.ok at c1
    simp only [Bool.and_eq_true] at c1
    have := inB_iff.1 c1.1.1.1
    omega
  rw [hw]
  generalize hJ : jud l = J at hjb ⊢
  by_cases c2 : J.2 = true ∧ ¬ inB J.1 1 9 = true
  · have c3 := Bool.eq_false_iff.2 c2.2
    rw [c2.1, c3]
    refine PF_nil (PF_start (O := O30) Ct30_ok hmix ho30 Tryz.func30 c30 rfl Tryz.ntmps30 Tryz.results30 ?_)
    simp (maxSteps := 4000000) +contextual (disch := first | omega | exact qdb_ok (by kernel_rfl) | exact okb_ok (by kernel_rfl)) only [bw1,bw2,bw3,bw5,bw6,bc0,bc1,bc2,bc3,bc4,bc5,bc6,bc7,extV,extS,AV.outs,AV.outF,packD,AV.dl,AV.cells?,↓reduceIte,reduceCtorEq,Nat.reduceAdd,Nat.reduceSub,List.reduceReplicate,Nat.reduceLeDiff,Nat.reduceLT,tfb,x30_22,x30_23,x30_41,c1, h1, hJ, c2.1, c3]
    rfl
  have c4 : (!J.2 || inB J.1 1 9) = true := by
    cases hj : J.2
    · rfl
    · by_cases c5 : inB J.1 1 9 = true
      · rw [c5]; rfl
      · exact absurd ⟨hj, c5⟩ c2
  have hn : J.1 ≤ 1000 := by
    cases hj : J.2
    · have := hjb.2 hj; omega
    · rw [hj] at c4
      have := inB_iff.1 (show inB J.1 1 9 = true from c4)
      omega
  rw [c4, Bool.true_and]
  refine PF_nil (PF_start (O := O30) Ct30_ok hmix ho30 Tryz.func30 c30 rfl Tryz.ntmps30 Tryz.results30 ?_)
  cases hj : J.2
  simp (maxSteps := 4000000) +contextual (disch := first | omega | exact qdb_ok (by kernel_rfl) | exact okb_ok (by kernel_rfl)) only [bw1,bw2,bw3,bw4,bw5,bw6,bw7,bc0,bc1,bc2,bc3,bc4,bc5,bc6,AV.isSlice,AV.rows,extV,extS,AV.dl,AV.cells?,↓reduceIte,reduceCtorEq,Nat.reduceAdd,Nat.reduceSub,List.reduceReplicate,Nat.reduceLeDiff,Nat.reduceLT,tfb,x30_22,x30_41,c1, h1, hJ, hj]
  rotate_left
  rw [hj] at c4
  have c5 : inB J.1 1 9 = true := c4
  simp (maxSteps := 4000000) +contextual (disch := first | omega | exact qdb_ok (by kernel_rfl) | exact okb_ok (by kernel_rfl)) only [bw1,bw2,bw3,bw4,bw5,bw6,bc0,bc1,bc2,bc3,bc4,bc5,bc6,AV.isSlice,AV.rows,extV,extS,AV.dl,AV.cells?,↓reduceIte,reduceCtorEq,Nat.reduceAdd,Nat.reduceSub,List.reduceReplicate,Nat.reduceLeDiff,Nat.reduceLT,tfb,x30_22,x30_23,x30_41,c1, h1, hJ, hj, c5]
  all_goals
    refine loop_s (O := O30) (tb := 0) Ct30_ok hmix (by kernel_rfl) (σ := Nat) (fun i => [(7, .b true), (9, .any), (28, .i i)]) (fun i => i ≤ l.length ∧ ∀ j, j < i → skaOk r (l.getD j default) J.1 = true) (fun i => l.length - i) (fun i => i + 1) 0 ⟨by omega, fun j h => by omega⟩ ?_ ?_
    · simp (maxSteps := 4000000) +contextual (disch := first | omega | exact qdb_ok (by kernel_rfl) | exact okb_ok (by kernel_rfl)) only [bw4,bw6,bc0,bc5,bc6,AV.isNilS,AV.isNoRows,wk,reduceCtorEq]
      try rfl
    rintro i ⟨hi0, hf⟩
    by_cases hlt : i < l.length
    · have hlt' : (i : Int) < l.length := by omega
      have h2i : ∀ x ∈ (l.getD i default).calls, i64 x.place := h2 _ (by rw [at_lt hlt]; exact List.getElem_mem _)
      by_cases d : skaOk r (l.getD i default) J.1 = true
      · have hf' : ∀ j, j < i + 1 → skaOk r (l.getD j default) J.1 = true := fun j hj => by
          rcases Nat.lt_or_ge j i with h | h
          · exact hf j h
          · rw [show j = i by omega]; exact d
        simp (maxSteps := 4000000) +contextual (disch := first | omega | exact qdb_ok (by kernel_rfl) | exact okb_ok (by kernel_rfl)) only [bw1,bw2,bw4,bw5,bw6,bw7,bc0,bc1,bc2,bc3,bc4,bc5,bc6,AV.isNilS,AV.isNoRows,wk,binIs,idxV,AV.isSl,AV.rows,ps,pv,AV.dl,AV.cells?,AV.menc,AV.one,D.one,Value.oneCell',↓reduceIte,reduceCtorEq,Nat.reduceAdd,Nat.reduceLeDiff,Nat.reduceLT,Nat.reduceBEq,Nat.reduceEqDiff,tfb,x30_42,eq_self, hlt', d]
        and_intros <;> first | omega | exact hf' | exact h2i | rfl
      · have d' := Bool.eq_false_iff.2 d
        have ha : (l.all fun s => skaOk r s J.1) = false := all_no (p := fun s => skaOk r s J.1) hlt d'
        simp (maxSteps := 4000000) +contextual (disch := first | omega | exact qdb_ok (by kernel_rfl) | exact okb_ok (by kernel_rfl)) only [bw1,bw2,bw3,bw4,bw5,bw6,bw7,bc0,bc1,bc2,bc3,bc4,bc5,bc6,binIs,idxV,AV.isSl,AV.rows,ps,pv,AV.outs,AV.outF,packD,AV.dl,AV.cells?,AV.menc,AV.one,D.one,Value.oneCell',↓reduceIte,reduceCtorEq,Nat.reduceAdd,Nat.reduceLeDiff,Nat.reduceLT,Nat.reduceBEq,Nat.reduceEqDiff,tfb,x30_42,eq_self, hlt', d', ha]
        and_intros <;> first | omega | exact h2i | rfl
    · have hlt' : ¬ (i : Int) < l.length := by omega
      have ha : (l.all fun s => skaOk r s J.1) = true := all_yes (p := fun s => skaOk r s J.1) fun j hj => hf j (by omega)
      simp (maxSteps := 4000000) +contextual (disch := first | omega | exact qdb_ok (by kernel_rfl) | exact okb_ok (by kernel_rfl)) only [bw1,bw2,bw3,bw5,bw6,bw7,bc0,bc1,bc2,bc3,bc4,bc5,bc6,binIs,AV.outs,AV.outF,packD,↓reduceIte,tfb,eq_self, hlt', ha]
def ent30 (args : List AV) (K : AV → List AV → Sto → Prop) (e : List AV) (s : Sto) : Prop := ent (α := (Rul) × (List Ska)) (fun aa => [aa.1.d, .sl 3 (aa.2.map Ska.c)]) (fun aa => aa.2.length ≤ 1000 ∧ ∀ s ∈ aa.2, ∀ x ∈ s.calls, i64 x.place) (fun aa => .b (conOk aa.1 aa.2)) args K e s
theorem ent30_ok {args : List AV} {K : AV → List AV → Sto → Prop} {Q : Kt} {e : List AV} {s : Sto} (h : ent30 args K e s) : pcall Tryz.prog 30 args K Q e s := ent_ok (fun aa h => pf30 aa.1 aa.2 h) h
theorem eq30 {r : Rul} {l : List Ska} {KK : AV → List AV → Sto → Prop} {ee : List AV} {ss : Sto} : ent30 [.d (r.d), .d (.sl 3 (l.map Ska.c))] KK ee ss = ((l.length ≤ 1000 ∧ ∀ s ∈ l, ∀ x ∈ s.calls, i64 x.place) ∧ KK (.d (.b (conOk r l))) ee ss) := by
  unfold ent30; rw [ent_iff (r, l) (by intro b h; simpa [Prod.ext_iff, and_assoc, Int.ofNat_inj, ints_inj, cals_inj, pcs_inj, skas_inj, scos_inj, ska_inj, rul_inj, sco_inj, cal_inj] using h) rfl]; simp
theorem eqo30 {r : Rul} {l : List Ska} {g1 el1 : Nat} {KK : AV → List AV → Sto → Prop} {ee : List AV} {ss : Sto} : ent30 [.d (r.d), .own g1 el1 3 (l.map Ska.c)] KK ee ss = ((l.length ≤ 1000 ∧ ∀ s ∈ l, ∀ x ∈ s.calls, i64 x.place) ∧ (.b (conOk r l) : D).flat = true ∧ KK (.d (.b (conOk r l))) ee ss) := by
  unfold ent30; rw [ent_iff (r, l) (by intro b h; simpa [Prod.ext_iff, and_assoc, Int.ofNat_inj, ints_inj, cals_inj, pcs_inj, skas_inj, scos_inj, ska_inj, rul_inj, sco_inj, cal_inj] using h) rfl]; simp
end Go.Proofs.YtapglfcaghlpfaaGreat
