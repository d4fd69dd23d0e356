/- A part of the proof that the last text ends: what functions of the program do, told by plain data. -/
import Derived.Test.YtapglfcaghlpfaaGreatZSK
set_option linter.unusedVariables false
set_option linter.unusedSimpArgs false
namespace Go.Proofs.YtapglfcaghlpfaaGreat
open Go Go.E Go.Maps
set_option maxRecDepth 100000
set_option maxHeartbeats 16000000
def O79 : Nat → Sch := fun id => .done
theorem ho79 : Tryz.f79.body.map (okO O79) = some true := by kernel_rfl
def Cf79 : Nat → List AV → (AV → List AV → Sto → Prop) → Kt → List AV → Sto → Prop := fun f args K Q e s => match f with
  | 80 => ent80 args K e s
  | _ => False
def Ct79 : CT := { f := Cf79, y := noYld, z := fun d => false }
theorem Ct79_ok : Ct79.ok Tryz.prog := ok_of_f (fun f args K Q e s h => by
  have h : Cf79 f args K Q e s := h
  unfold Cf79 at h; split at h
  · exact ent80_ok h
  · exact h.elim) (fun _ _ _ _ _ _ _ _ _ h => h)
theorem x79_80 {l : List Int} {n : Int} {lo : Int} {hi : Int} {KK : AV → List AV → Sto → Prop} {QQ : Kt} {ii : At KK} {jj : At QQ} {ee : List AV} {ss : Sto} : xC Ct79 80 [.d (.sl 1 (l.map ic)), .d (.i n), .d (.i lo), .d (.i hi)] KK QQ ii jj ee ss = ((n ≤ 1000) ∧ KK (.d (.b (marksOk l n lo hi))) ee ss) := eq80
theorem c79 : callable Tryz.prog 79 = true := by kernel_rfl
theorem pf79 (l : List Int) (n : Int) (h : n ≤ 1000) : PF Tryz.prog 79 [.sl 1 (l.map ic), .ptr [.i n] 0] (fun zz => zz = .ret (.b (!marksOk l n 0 40))) := by
  refine PF_nil (PF_start (O := O79) Ct79_ok hmix ho79 Tryz.func79 c79 rfl Tryz.ntmps79 Tryz.results79 ?_)
  simp (maxSteps := 4000000) +contextual (disch := first | omega | exact qdb_ok (by kernel_rfl) | exact okb_ok (by kernel_rfl)) only [bw1,bw2,bw3,bw5,bw6,bc1,bc2,bc3,bc4,bc5,AV.outs,AV.outF,packD,↓reduceIte,Nat.reduceAdd,Nat.reduceSub,List.reduceReplicate,Nat.reduceLeDiff,tfb,x79_80]
  exact h
def ent79 (o : Option (List D)) (K : AV → List AV → Sto → Prop) (i : At K) (e : List AV) (s : Sto) : Prop := entS (α := (List Int) × (Int)) (fun aa => [.sl 1 (aa.1.map ic), .ptr [.i aa.2] 0]) (fun aa => aa.2 ≤ 1000) (fun aa => .b (!marksOk aa.1 aa.2 0 40)) o K i e s
theorem ent79_ok {args : List AV} {K : AV → List AV → Sto → Prop} {Q : Kt} {e : List AV} {s : Sto} (h : ent79 (AV.outs s args) K (mk _) e s) : pcall Tryz.prog 79 args K Q e s := entS_ok (fun aa h => pf79 aa.1 aa.2 h) h
theorem eq79 {l : List Int} {n : Int} {KK : AV → List AV → Sto → Prop} {ii : At KK} {ee : List AV} {ss : Sto} : ent79 (some [.sl 1 (l.map ic), .ptr [.i n] 0]) KK ii ee ss = ((n ≤ 1000) ∧ (.b (!marksOk l n 0 40) : D).flat = true ∧ KK (.d (.b (!marksOk l n 0 40))) ee ss) := by
  unfold ent79; rw [entS_iff (l, n) (by intro b h; simpa [Prod.ext_iff, and_assoc, Int.ofNat_inj, ints_inj, cals_inj, pcs_inj, skas_inj, scos_inj, ska_inj, rul_inj, sco_inj, cal_inj] using h)] <;> simp
def O92 : Nat → Sch := fun id => .done
theorem ho92 : Tryz.f92.body.map (okO O92) = some true := by kernel_rfl
def Cf92 : Nat → List AV → (AV → List AV → Sto → Prop) → Kt → List AV → Sto → Prop := fun f args K Q e s => match f with
  | 79 => ent79 (AV.outs s args) K (mk _) e s
  | _ => False
def Ct92 : CT := { f := Cf92, y := noYld, z := fun d => false }
theorem Ct92_ok : Ct92.ok Tryz.prog := ok_of_f (fun f args K Q e s h => by
  have h : Cf92 f args K Q e s := h
  unfold Cf92 at h; split at h
  · exact ent79_ok h
  · exact h.elim) (fun _ _ _ _ _ _ _ _ _ h => h)
theorem x92_79 {args : List AV} {KK : AV → List AV → Sto → Prop} {QQ : Kt} {ii : At KK} {jj : At QQ} {ee : List AV} {ss : Sto} : xC Ct92 79 args KK QQ ii jj ee ss = ent79 (AV.outs ss args) KK (mk _) ee ss := id rfl
theorem c92 : callable Tryz.prog 92 = true := by kernel_rfl
def O78 : Nat → Sch := fun id => .done
theorem ho78 : Tryz.f78.body.map (okO O78) = some true := by kernel_rfl
def Cf78 : Nat → List AV → (AV → List AV → Sto → Prop) → Kt → List AV → Sto → Prop := fun f args K Q e s => match f with
  | 92 => inlE Tryz.prog Ct92 O92 92000 92 args K Q e s
  | _ => False
def Ct78 : CT := { f := Cf78, y := noYld, z := fun d => false }
theorem Ct78_ok : Ct78.ok Tryz.prog := ok_of_f (fun f args K Q e s h => by
  have h : Cf78 f args K Q e s := h
  unfold Cf78 at h; split at h
  · exact inlE_ok Ct92_ok hmix ho92 h
  · exact h.elim) (fun _ _ _ _ _ _ _ _ _ h => h)
theorem z78_92 : type_of% (@xinl Tryz.prog Ct78 Ct92 O92 92000 92 _ _ _ _ rfl c92 Tryz.func92 rfl Tryz.ntmps92 Tryz.results92) := @xinl Tryz.prog Ct78 Ct92 O92 92000 92 _ _ _ _ rfl c92 Tryz.func92 rfl Tryz.ntmps92 Tryz.results92
theorem c78 : callable Tryz.prog 78 = true := by kernel_rfl
def O42 : Nat → Sch := fun id => .done
theorem ho42 : Tryz.f42.body.map (okO O42) = some true := by kernel_rfl
def Cf42 : Nat → List AV → (AV → List AV → Sto → Prop) → Kt → List AV → Sto → Prop := fun f args K Q e s => match f with
  | 23 => ent23 args K e s
  | 77 => ent77 args K e s
  | 78 => inlE Tryz.prog Ct78 O78 78000 78 args K Q e s
  | _ => False
def Ct42 : CT := { f := Cf42, y := noYld, z := fun d => false }
theorem Ct42_ok : Ct42.ok Tryz.prog := ok_of_f (fun f args K Q e s h => by
  have h : Cf42 f args K Q e s := h
  unfold Cf42 at h; split at h
  · exact ent23_ok h
  · exact ent77_ok h
  · exact inlE_ok Ct78_ok hmix ho78 h
  · exact h.elim) (fun _ _ _ _ _ _ _ _ _ h => h)
theorem x42_23 {n : Int} {lo : Int} {hi : Int} {KK : AV → List AV → Sto → Prop} {QQ : Kt} {ii : At KK} {jj : At QQ} {ee : List AV} {ss : Sto} : xC Ct42 23 [.d (.i n), .d (.i lo), .d (.i hi)] KK QQ ii jj ee ss = (KK (.d (.b (inB n lo hi))) ee ss) := eq23
theorem x42_77 {r : Rul} {x : Cal} {n : Int} {KK : AV → List AV → Sto → Prop} {QQ : Kt} {ii : At KK} {jj : At QQ} {ee : List AV} {ss : Sto} : xC Ct42 77 [.d (r.d), .d (.agg x.c), .d (.i n)] KK QQ ii jj ee ss = ((n ≤ 1000 ∧ r.bases.length ≤ 1000) ∧ KK (.d (.b (callOk r x n))) ee ss) := eq77
theorem z42_78 : type_of% (@xinl Tryz.prog Ct42 Ct78 O78 78000 78 _ _ _ _ rfl c78 Tryz.func78 rfl Tryz.ntmps78 Tryz.results78) := @xinl Tryz.prog Ct42 Ct78 O78 78000 78 _ _ _ _ rfl c78 Tryz.func78 rfl Tryz.ntmps78 Tryz.results78
theorem c42 : callable Tryz.prog 42 = true := by kernel_rfl
theorem pf42 (r : Rul) (s : Ska) (n : Int) (h : (n ≤ 1000 ∧ r.bases.length ≤ 1000) ∧ ∀ x ∈ s.calls, i64 x.place) : PF Tryz.prog 42 [r.d, .agg s.c, .i n] (fun zz => zz = .ret (.b (skaOk r s n))) := by
  obtain ⟨⟨h1, h2⟩, h3⟩ := h
  by_cases c1 : (16 : Int) < s.calls.length
  · have hw : skaOk r s n = false := by unfold skaOk; rw [decide_eq_false (by omega)]; rfl
    rw [hw]
    refine PF_nil (PF_start (O := O42) Ct42_ok hmix ho42 Tryz.func42 c42 rfl Tryz.ntmps42 Tryz.results42 ?_)
    simp (maxSteps := 4000000) +contextual (disch := first | omega | exact qdb_ok (by kernel_rfl) | exact okb_ok (by kernel_rfl)) only [bw1,bw2,bw3,bw4,bw5,bw6,bw7,bc0,bc1,bc2,bc3,bc4,bc5,bc6,binIs,addF,AV.isPtr,AV.isSlice,AV.rows,AV.outs,AV.outF,packD,AV.cells?,Value.oneCell',↓reduceIte,reduceCtorEq,Nat.reduceAdd,Nat.reduceSub,List.reduceReplicate,Nat.reduceLeDiff,Nat.reduceLT,Nat.reduceBEq,Nat.reduceEqDiff,tfb,c1]
  by_cases c2 : (5 : Int) < s.parts.length
  · have hw : skaOk r s n = false := by unfold skaOk; rw [decide_eq_false (show ¬ s.parts.length ≤ 5 by omega), Bool.and_false]; rfl
    rw [hw]
    refine PF_nil (PF_start (O := O42) Ct42_ok hmix ho42 Tryz.func42 c42 rfl Tryz.ntmps42 Tryz.results42 ?_)
    simp (maxSteps := 4000000) +contextual (disch := first | omega | exact qdb_ok (by kernel_rfl) | exact okb_ok (by kernel_rfl)) only [bw1,bw2,bw3,bw4,bw5,bw6,bw7,bc0,bc1,bc2,bc3,bc4,bc5,bc6,binIs,addF,AV.isPtr,AV.isSlice,AV.rows,AV.outs,AV.outF,packD,AV.cells?,Value.oneCell',↓reduceIte,reduceCtorEq,Nat.reduceAdd,Nat.reduceSub,List.reduceReplicate,Nat.reduceLeDiff,Nat.reduceLT,Nat.reduceBEq,Nat.reduceEqDiff,tfb,c1, c2]
  by_cases c3 : inB s.over 0 600 = true
  case neg =>
    have hw : skaOk r s n = false := by unfold skaOk; rw [Bool.eq_false_iff.2 c3, Bool.and_false]; rfl
    rw [hw]
    refine PF_nil (PF_start (O := O42) Ct42_ok hmix ho42 Tryz.func42 c42 rfl Tryz.ntmps42 Tryz.results42 ?_)
    simp (maxSteps := 4000000) +contextual (disch := first | omega | exact qdb_ok (by kernel_rfl) | exact okb_ok (by kernel_rfl)) only [bw1,bw2,bw3,bw4,bw5,bw6,bw7,bc0,bc1,bc2,bc3,bc4,bc5,bc6,binIs,addF,AV.isPtr,AV.isSlice,AV.rows,AV.outs,AV.outF,packD,AV.cells?,Value.oneCell',↓reduceIte,reduceCtorEq,Nat.reduceAdd,Nat.reduceSub,List.reduceReplicate,Nat.reduceLeDiff,Nat.reduceLT,Nat.reduceBEq,Nat.reduceEqDiff,tfb,x42_23,c1, c2, c3]
  have hw : skaOk r s n = (okN r n s.calls s.calls.length 0 && partsOk n s.parts) := by unfold skaOk; rw [c3, decide_eq_true (show s.calls.length ≤ 16 by omega), decide_eq_true (show s.parts.length ≤ 5 by omega)]; rfl
  rw [hw]
  refine PF_nil (PF_start (O := O42) Ct42_ok hmix ho42 Tryz.func42 c42 rfl Tryz.ntmps42 Tryz.results42 ?_)
  simp (maxSteps := 4000000) +contextual (disch := first | omega | exact qdb_ok (by kernel_rfl) | exact okb_ok (by kernel_rfl)) only [bw1,bw2,bw3,bw4,bw5,bw6,bw7,bc0,bc1,bc2,bc3,bc4,bc5,bc6,bb0,binIs,addF,AV.isPtr,AV.isSlice,AV.rows,AV.cells?,Value.oneCell',↓reduceIte,reduceCtorEq,Nat.reduceAdd,Nat.reduceSub,List.reduceReplicate,Nat.reduceLeDiff,Nat.reduceLT,Nat.reduceBEq,Nat.reduceEqDiff,tfb,x42_23,c1, c2, c3]
  refine loop_u (O := O42) (tb := 0) Ct42_ok hmix (by kernel_rfl) (σ := Nat) (fun i => [(9, .any), (30, .i i)]) (fun i => [(2000000026, ents fki fvb (seenN s.calls i))]) (fun i => i ≤ s.calls.length ∧ okN r n s.calls (s.calls.length - i) i = okN r n s.calls s.calls.length 0) (fun i => s.calls.length - i) (fun i => i + 1) 0 ⟨by omega, rfl⟩ ?_ ?_
  · simp (maxSteps := 4000000) +contextual (disch := first | omega | exact qdb_ok (by kernel_rfl) | exact okb_ok (by kernel_rfl)) only [bw4,bw5,bw6,bc0,bc3,bc5,bc6,AV.isNilS,AV.isNoRows,wk,↓reduceIte,reduceCtorEq,Nat.reduceEqDiff,eq_self]
    exact trivial
  rintro i ⟨hi, hk⟩
  by_cases hlt : i < s.calls.length
  · have hlt' : (i : Int) < s.calls.length := by omega
    rw [show s.calls.length - i = (s.calls.length - (i + 1)) + 1 by omega, okN] at hk
    have hpl := h3 (s.calls.getD i default) (by rw [at_lt hlt]; exact List.getElem_mem _)
    have hko := keyOf3 hpl
    have hmo : mapOk Tryz.prog 3 (ents fki fvb (seenN s.calls i)) := ents_ok' (fkv := fun n => Value.int .i64 n) fki_val fun p hp => by
      obtain ⟨x, hx, rfl⟩ := List.mem_map.1 hp
      exact keyOf3 (h3 x (List.mem_of_mem_take hx))
    simp (maxSteps := 4000000) +contextual (disch := first | omega | exact qdb_ok (by kernel_rfl) | exact okb_ok (by kernel_rfl)) only [bw1,bw2,bw4,bw5,bw6,bw7,bc0,bc1,bc2,bc3,bc4,bc5,bc6,binIs,addF,AV.isPtr,idxV,AV.isSl,AV.rows,ps,pv,AV.cells?,AV.menc,AV.one,D.one,Value.oneCell',D.val?,↓reduceIte,reduceCtorEq,Nat.reduceAdd,Nat.reduceLeDiff,Nat.reduceLT,Nat.reduceBEq,Nat.reduceEqDiff,tfb,eq_self, hlt', key3', kill_ents, mencs_ents, hko, hmo]
    refine ⟨by omega, ?_⟩
    refine xLk_ents (fkv := fun n => Value.int .i64 n) fki_val fki_inj (fun v hv => ?_) (fun hv => ?_)
    · have hd := dup_iff.1 hv
      rw [if_pos hd.1] at hk
      rw [← hk, hd.2]
      simp (maxSteps := 4000000) +contextual (disch := first | omega | exact qdb_ok (by kernel_rfl) | exact okb_ok (by kernel_rfl)) only [bw1,bw2,bw3,bw5,bw6,bw7,bc0,bc2,bc3,bc4,bc5,bc7,AV.outs,AV.outF,packD,↓reduceIte,tfb,eq_self]
      rfl
    · have hd : ¬ dupB s.calls i = true := fun h => hv true (dup_iff.2 ⟨h, rfl⟩)
      rw [if_neg hd] at hk
      by_cases c4 : callOk r (s.calls.getD i default) n = true
      · rw [if_pos c4] at hk
        simp (maxSteps := 4000000) +contextual (disch := first | omega | exact qdb_ok (by kernel_rfl) | exact okb_ok (by kernel_rfl)) only [bw1,bw2,bw3,bw5,bw6,bc0,bc1,bc2,bc3,bc4,bc5,bc6,addF,AV.isPtr,AV.dl,AV.menc,D.val?,↓reduceIte,reduceCtorEq,Nat.reduceAdd,Nat.reduceLeDiff,Nat.reduceLT,Nat.reduceEqDiff,tfb,x42_77,eq_self, c4, key3', mencs_ents, hko, hmo]
        refine ⟨⟨h1, h2⟩, xUp_new (fkv := fun n => Value.int .i64 n) fki_val fki_inj (v := true) rfl rfl hv ?_⟩
        rw [← seenN_succ hlt]
        simp (maxSteps := 4000000) +contextual (disch := first | omega | exact qdb_ok (by kernel_rfl) | exact okb_ok (by kernel_rfl)) only [bw1,bw2,bw4,bw5,bw6,bw7,bc0,bc1,bc3,bc4,bc5,bc6,AV.isNilS,AV.isNoRows,wk,binIs,↓reduceIte,reduceCtorEq,Nat.reduceEqDiff,tfb,eq_self]
        exact ⟨⟨⟨by omega, hk⟩, by omega⟩, wk_ents _⟩
      · rw [if_neg c4] at hk
        rw [← hk]
        simp (maxSteps := 4000000) +contextual (disch := first | omega | exact qdb_ok (by kernel_rfl) | exact okb_ok (by kernel_rfl)) only [bw1,bw2,bw3,bw5,bw6,bc0,bc1,bc2,bc3,bc4,bc5,bc6,bc7,AV.outs,AV.outF,packD,AV.dl,↓reduceIte,reduceCtorEq,Nat.reduceAdd,Nat.reduceLeDiff,Nat.reduceEqDiff,tfb,x42_77,eq_self, c4]
        exact ⟨⟨h1, h2⟩, rfl⟩
  · have hlt' : ¬ (i : Int) < s.calls.length := by omega
    rw [show s.calls.length - i = 0 by omega, okN] at hk
    rw [← hk]
    simp (maxSteps := 4000000) +contextual (disch := first | omega | exact qdb_ok (by kernel_rfl) | exact okb_ok (by kernel_rfl)) only [bw1,bw2,bw3,bw4,bw5,bw6,bw7,bc0,bc1,bc2,bc3,bc4,bc5,bc6,binIs,addF,AV.isPtr,AV.isSlice,AV.rows,AV.dl,↓reduceIte,reduceCtorEq,Nat.reduceAdd,Nat.reduceSub,List.reduceReplicate,Nat.reduceLeDiff,Nat.reduceEqDiff,Int.reduceNeg,tfb,z42_78,z78_92,eq_self, hlt']
    refine loop_s (O := O92) (tb := 92000) Ct92_ok hmix (by kernel_rfl) (σ := Nat) (fun i => [(8, .i i)]) (fun i => i ≤ s.parts.length ∧ ∀ j, j < i → marksOk (s.parts.getD j default) n 0 40 = true) (fun i => s.parts.length - i) (fun i => i + 1) 0 ⟨by omega, fun j h => by omega⟩ ?_ ?_
    · simp (maxSteps := 4000000) +contextual (disch := first | omega | exact qdb_ok (by kernel_rfl) | exact okb_ok (by kernel_rfl)) only [bw4,bw6,bc0,bc5,bc6,AV.isNilS,AV.isNoRows,wk,reduceCtorEq,eq_self]
    rintro q ⟨hq0, hf⟩
    by_cases hqt : q < s.parts.length
    · have hqt' : (q : Int) < s.parts.length := by omega
      by_cases d : marksOk (s.parts.getD q default) n 0 40 = true
      · have hf' : ∀ j, j < q + 1 → marksOk (s.parts.getD j default) n 0 40 = true := fun j hj => by
          rcases Nat.lt_or_ge j q with h | h
          · exact hf j h
          · rw [show j = q by omega]; exact d
        simp (maxSteps := 4000000) +contextual (disch := first | omega | exact qdb_ok (by kernel_rfl) | exact okb_ok (by kernel_rfl)) only [bw1,bw2,bw3,bw4,bw5,bw6,bw7,bc0,bc1,bc2,bc3,bc4,bc5,bc6,AV.isNilS,AV.isNoRows,wk,binIs,idxV,AV.isSl,AV.rows,ps,pv,AV.outs,AV.outF,AV.one,D.one,Value.oneCell',↓reduceIte,reduceCtorEq,Nat.reduceLeDiff,Nat.reduceEqDiff,Int.reduceNeg,tfb,D.flat,x92_79,eq79,eq_self, hqt', d]
        and_intros <;> first | omega | exact hf' | exact wk_ents _
      · have d' := Bool.eq_false_iff.2 d
        have ha : partsOk n s.parts = false := all_no hqt d'
        have hge : decide (0 ≤ (q : Int)) = true := decide_eq_true (by omega)
        simp (maxSteps := 4000000) +contextual (disch := first | omega | exact qdb_ok (by kernel_rfl) | exact okb_ok (by kernel_rfl)) only [bw1,bw2,bw3,bw4,bw5,bw6,bw7,bc0,bc1,bc2,bc3,bc4,bc5,bc6,binIs,idxV,AV.isSl,AV.rows,ps,pv,AV.outs,AV.outF,packD,AV.one,D.one,Value.oneCell',packA,↓reduceIte,reduceCtorEq,Nat.reduceAdd,Nat.reduceLeDiff,Nat.reduceEqDiff,Int.reduceNeg,tfb,D.flat,x92_79,eq79,eq_self, hqt', d', ha, hge]
        and_intros <;> first | omega | rfl
    · have hqt' : ¬ (q : Int) < s.parts.length := by omega
      have ha : partsOk n s.parts = true := all_yes fun j hj => hf j (by omega)
      simp (maxSteps := 4000000) +contextual (disch := first | omega | exact qdb_ok (by kernel_rfl) | exact okb_ok (by kernel_rfl)) only [bw1,bw2,bw3,bw5,bw6,bw7,bc0,bc1,bc2,bc3,bc4,bc5,bc6,binIs,AV.outs,AV.outF,packD,packA,↓reduceIte,Nat.reduceAdd,Int.reduceNeg,Int.reduceLE,tfb,eq_self, hqt', ha]
def ent42 (args : List AV) (K : AV → List AV → Sto → Prop) (e : List AV) (s : Sto) : Prop := ent (α := (Rul) × (Ska) × (Int)) (fun aa => [aa.1.d, .agg aa.2.1.c, .i aa.2.2]) (fun aa => (aa.2.2 ≤ 1000 ∧ aa.1.bases.length ≤ 1000) ∧ ∀ x ∈ aa.2.1.calls, i64 x.place) (fun aa => .b (skaOk aa.1 aa.2.1 aa.2.2)) args K e s
theorem ent42_ok {args : List AV} {K : AV → List AV → Sto → Prop} {Q : Kt} {e : List AV} {s : Sto} (h : ent42 args K e s) : pcall Tryz.prog 42 args K Q e s := ent_ok (fun aa h => pf42 aa.1 aa.2.1 aa.2.2 h) h
theorem eq42 {r : Rul} {s : Ska} {n : Int} {KK : AV → List AV → Sto → Prop} {ee : List AV} {ss : Sto} : ent42 [.d (r.d), .d (.agg s.c), .d (.i n)] KK ee ss = (((n ≤ 1000 ∧ r.bases.length ≤ 1000) ∧ ∀ x ∈ s.calls, i64 x.place) ∧ KK (.d (.b (skaOk r s n))) ee ss) := by
  unfold ent42; rw [ent_iff (r, s, n) (by intro b h; simpa [Prod.ext_iff, and_assoc, Int.ofNat_inj, ints_inj, cals_inj, pcs_inj, skas_inj, scos_inj, ska_inj, rul_inj, sco_inj, cal_inj] using h) rfl]; simp
end Go.Proofs.YtapglfcaghlpfaaGreat
