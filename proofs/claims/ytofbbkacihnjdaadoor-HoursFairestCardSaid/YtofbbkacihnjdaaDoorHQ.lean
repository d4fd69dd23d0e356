/- A part of the proof that the last text ends: what functions of the program do, told by plain data. -/
import Derived.Test.YtofbbkacihnjdaaDoorHP
import Derived.Test.YtofbbkacihnjdaaDoorEc
set_option linter.unusedVariables false
set_option linter.unusedSimpArgs false
namespace Go.Proofs.YtofbbkacihnjdaaDoor
open Go Go.E Go.Maps
set_option maxRecDepth 100000
set_option maxHeartbeats 16000000
abbrev tC (t : Tt) : List AV := [.d (.sl 3 (t.hours.map Hr.c)), .d (.sl 5 (t.groups.map Gr.c)), .d (.i t.res)]
def O61 : Nat → Sch := fun id => .done
theorem ho61 : Tryd.f61.body.map (okO O61) = some true := by kernel_rfl
def Cf61 : Nat → List AV → (AV → List AV → Sto → Prop) → Kt → List AV → Sto → Prop := fun f args K Q e s => match f with
  | _ => False
def Ct61 : CT := { f := Cf61, y := noYld, z := fun d => false }
theorem Ct61_ok : Ct61.ok Tryd.prog := ok_of_f (fun f args K Q e s h => by
  have h : Cf61 f args K Q e s := h
  unfold Cf61 at h; split at h
  · exact h.elim) (fun _ _ _ _ _ _ _ _ _ h => h)
theorem c61 : callable Tryd.prog 61 = true := by kernel_rfl
def O70 : Nat → Sch := fun id => .done
theorem ho70 : Tryd.f70.body.map (okO O70) = some true := by kernel_rfl
def Cf70 : Nat → List AV → (AV → List AV → Sto → Prop) → Kt → List AV → Sto → Prop := fun f args K Q e s => match f with
  | 55 => ent55 (AV.outs s args) K (mk _) e s
  | _ => False
def Ct70 : CT := { f := Cf70, y := noYld, z := fun d => false }
theorem Ct70_ok : Ct70.ok Tryd.prog := ok_of_f (fun f args K Q e s h => by
  have h : Cf70 f args K Q e s := h
  unfold Cf70 at h; split at h
  · exact ent55_ok h
  · exact h.elim) (fun _ _ _ _ _ _ _ _ _ h => h)
theorem x70_55 {args : List AV} {KK : AV → List AV → Sto → Prop} {QQ : Kt} {ii : At KK} {jj : At QQ} {ee : List AV} {ss : Sto} : xC Ct70 55 args KK QQ ii jj ee ss = ent55 (AV.outs ss args) KK (mk _) ee ss := id rfl
theorem c70 : callable Tryd.prog 70 = true := by kernel_rfl
def O37 : Nat → Sch := fun id => if id = 10 then .one 1 (.one 2 (.alt (.one 0 (.one 3 (.one 4 (.done)))) (.one 3 (.one 0 (.one 4 (.done)))))) else .done
theorem O37_10 : O37 10 = .one 1 (.one 2 (.alt (.one 0 (.one 3 (.one 4 (.done)))) (.one 3 (.one 0 (.one 4 (.done)))))) := rfl
theorem ho37 : Tryd.f37.body.map (okO O37) = some true := by kernel_rfl
def Cf37o : Nat → List AV → (AV → List AV → Sto → Prop) → Kt → List AV → Sto → Prop := fun f args K Q e s => match f with
  | 54 => ent54 args K e s
  | 56 => ent56 args K e s
  | 61 => inlE Tryd.prog Ct61 O61 61000 61 args K Q e s
  | _ => False
def Ct37o : CT := { f := Cf37o, y := noYld, z := fun d => false }
theorem Ct37o_ok : Ct37o.ok Tryd.prog := ok_of_f (fun f args K Q e s h => by
  have h : Cf37o f args K Q e s := h
  unfold Cf37o at h; split at h
  · exact ent54_ok h
  · exact ent56_ok h
  · exact inlE_ok Ct61_ok hmix ho61 h
  · exact h.elim) (fun _ _ _ _ _ _ _ _ _ h => h)
def Yd37 : Nat → List Nat → Code → Code → List AV → (AV → List AV → Sto → Prop) → Kt → List AV → Sto → Prop := fun G ps asg bdy => if G / 1000 = 1000037 then yldE Tryd.prog Ct37o O37 37000 G ps asg bdy else fun _ _ _ _ _ => False
def Cy37_70 : CT := { f := Cf70, y := Yd37 }
theorem Cy37_70_ok : Cy37_70.ok Tryd.prog := ⟨Ct70_ok.f, fun g ps asg bdy args K Q e s h => by
  have h : Yd37 g ps asg bdy args K Q e s := h
  unfold Yd37 at h; split at h
  · exact yldE_ok Ct37o_ok hmix h
  · exact h.elim⟩
def Cf37 : Nat → List AV → (AV → List AV → Sto → Prop) → Kt → List AV → Sto → Prop := fun f args K Q e s => match f with
  | 54 => ent54 args K e s
  | 56 => ent56 args K e s
  | 61 => inlE Tryd.prog Ct61 O61 61000 61 args K Q e s
  | 70 => inlE Tryd.prog Cy37_70 O70 70000 70 args K Q e s
  | _ => False
def Ct37 : CT := { f := Cf37, y := noYld, z := fun d => false }
theorem Ct37_ok : Ct37.ok Tryd.prog := ok_of_f (fun f args K Q e s h => by
  have h : Cf37 f args K Q e s := h
  unfold Cf37 at h; split at h
  · exact ent54_ok h
  · exact ent56_ok h
  · exact inlE_ok Ct61_ok hmix ho61 h
  · exact inlE_ok Cy37_70_ok hmix ho70 h
  · exact h.elim) (fun _ _ _ _ _ _ _ _ _ h => h)
theorem z37_70 : type_of% (@xinl Tryd.prog Ct37 Cy37_70 O70 70000 70 _ _ _ _ rfl c70 Tryd.func70 rfl Tryd.ntmps70 Tryd.results70) := @xinl Tryd.prog Ct37 Cy37_70 O70 70000 70 _ _ _ _ rfl c70 Tryd.func70 rfl Tryd.ntmps70 Tryd.results70
theorem cy37_70 {n : Nat} {args : List AV} {K : AV → List AV → Sto → Prop} {Q : Kt} {i : At K} {j : At Q} {e : List AV} {s : Sto} : xC Cy37_70 n args K Q i j e s = xC Ct70 n args K Q i j e s := id rfl
theorem yy37_70_28 : type_of% (fun ps asg bdy => @xyld Tryd.prog Cy37_70 Ct37o O37 37000 1000037028 Yd37 rfl ps asg bdy (if_pos (by omega))) := fun ps asg bdy => @xyld Tryd.prog Cy37_70 Ct37o O37 37000 1000037028 Yd37 rfl ps asg bdy (if_pos (by omega))
theorem x37_54  {KK : AV → List AV → Sto → Prop} {QQ : Kt} {ii : At KK} {jj : At QQ} {ee : List AV} {ss : Sto} : xC Ct37 54 [] KK QQ ii jj ee ss = (KK (.d (.agg bgS.v)) ee ss) := eq54
theorem z37_61 : type_of% (@xinl Tryd.prog Ct37 Ct61 O61 61000 61 _ _ _ _ rfl c61 Tryd.func61 rfl Tryd.ntmps61 Tryd.results61) := @xinl Tryd.prog Ct37 Ct61 O61 61000 61 _ _ _ _ rfl c61 Tryd.func61 rfl Tryd.ntmps61 Tryd.results61
theorem x37o_56 {s : Sd} {g : Int} {KK : AV → List AV → Sto → Prop} {QQ : Kt} {ii : At KK} {jj : At QQ} {ee : List AV} {ss : Sto} : xC Ct37o 56 [.d (.agg s.v), .d (.i g)] KK QQ ii jj ee ss = (((-1 ≤ g ∧ g ≤ 4) ∧ (0 ≤ s.h ∧ s.h ≤ 1000) ∧ CnB s.n) ∧ KK (.d (.agg (nxS s g).v)) ee ss) := eq56
theorem c37 : callable Tryd.prog 37 = true := by kernel_rfl
theorem does37 {t : Tt} (ht : ttOk t = true) {K : AV → List AV → Sto → Prop} {Q : Kt} (hK : ∀ M, MR (stR t t.hours.length) M → K (.clo (.func 62) [] [.ref 37004 0]) [] [(0, []), (37004, [.mp 2000037007]), (2000037007, ents fkS fvT M)]) : pcall Tryd.prog 37 [.d (.ptr t.c 0)] K Q [] [(0, [])] := by
  have hbig := tt_hours ht
  refine pcall_start (O := O37) (tb := 37000) Ct37_ok hmix ho37 Tryd.func37 c37 rfl Tryd.ntmps37 Tryd.results37 ?_
  have hmok : mapOk Tryd.prog 86 [] := ents_ok' (M := ([] : List (Sd × Bool))) (fk := fkS) (fv := fvT) (fkv := fkvS) fkS_val (fun p hp => absurd hp List.not_mem_nil)
  have hko0 : (keyOf Tryd.prog 86 (Value.agg #[Value.int IntKind.i64 bgS.h, Value.int IntKind.i64 bgS.l, Value.int IntKind.i64 bgS.n.a, Value.int IntKind.i64 bgS.n.b, Value.int IntKind.i64 bgS.n.c, Value.int IntKind.i64 bgS.n.d, Value.int IntKind.i64 bgS.n.e])).isSome = true := (stR_b (t := t) (by omega) 0 bgS rfl).key (by omega)
  have cnf : cst Value.nilFunc = .d (.v .nilFunc) := rfl
  simp (maxSteps := 4000000) +contextual (disch := first | omega | exact qdb_ok (by kernel_rfl) | exact okb_ok (by kernel_rfl)) only [bw1,bw2,bw5,bw6,bc3,bc4,bc5,bc6,bb0,AV.menc,D.val?,↓reduceIte,reduceCtorEq,Nat.reduceAdd,Nat.reduceSub,List.reduceReplicate,Nat.reduceLT,tfb,p_insert,in_mp,x37_54, key86', hmok, cnf, hko0]
  refine xUp_put (fk := fkS) (fv := fvT) (fkv := fkvS) (M := ([] : List (Sd × Bool))) (k := bgS) (v := true) fkS_val fkvS_inj rfl rfl (by simp) (fun M0 hn0 hm0 => ?_)
  have hM0 : MR (stR t 0) M0 := ⟨hn0, fun T => by
    constructor
    · rintro ⟨w, hw⟩
      rcases (hm0 T w).1 hw with ⟨h1, _⟩ | ⟨_, h2⟩
      · exact h1
      · cases h2
    · intro h1
      exact ⟨true, (hm0 T true).2 (.inl ⟨h1, rfl⟩)⟩⟩
  clear hko0 hmok hn0 hm0
  simp (maxSteps := 4000000) +contextual (disch := first | omega | exact qdb_ok (by kernel_rfl) | exact okb_ok (by kernel_rfl)) only [bw1,bw2,bw4,bw5,bw6,bc2,bc3,bc4,bc5,bc6,addF,AV.isPtr,AV.isSlice,AV.rows,AV.cells?,AV.menc,AV.one,↓reduceIte,reduceCtorEq,Nat.reduceAdd,Nat.reduceLeDiff,Nat.reduceLT,Nat.reduceBEq,Nat.reduceEqDiff,tfb, eq_self, kill_ents, mencs_ents]
  refine loop_xg (O := O37) (tb := 37000) Ct37_ok hmix (by kernel_rfl) (σ := Nat × List (Sd × Bool)) (fun x => [(7, .any), (9, .any), (16, .i x.1)]) (fun x => [(0, []), (37004, [.mp 2000037007]), (2000037007, ents fkS fvT x.2)]) (fun x => x.1 ≤ t.hours.length ∧ MR (stR t x.1) x.2) (fun x => t.hours.length - x.1) (0, M0) ⟨Nat.zero_le _, hM0⟩ ?_ ?_
  · simp (maxSteps := 4000000) +contextual (disch := first | omega | exact qdb_ok (by kernel_rfl) | exact okb_ok (by kernel_rfl)) only [bw4,bw5,bw6,bc0,bc3,bc5,bc6,AV.isNilS,AV.isNoRows,wk,↓reduceIte,reduceCtorEq,Nat.reduceEqDiff,wks, eq_self]
  clear hM0 M0
  rintro ⟨k, M⟩ ⟨hk, hM⟩
  dsimp only at hk hM ⊢
  by_cases hlt : k < t.hours.length
  · have hlt' : (k : Int) < t.hours.length := by omega
    simp (maxSteps := 4000000) +contextual (disch := first | omega | exact qdb_ok (by kernel_rfl) | exact okb_ok (by kernel_rfl)) only [bw1,bw2,bw5,bw6,bw7,bc0,bc1,bc2,bc3,bc4,bc5,bc6,bb0,binIs,AV.cells?,AV.menc,AV.one,↓reduceIte,reduceCtorEq,Nat.reduceAdd,Nat.reduceLeDiff,Nat.reduceLT,Nat.reduceBEq,Nat.reduceEqDiff,tfb, eq_self, hlt', kill_ents, mencs_ents, pairs_ents_eq, ents_len]
    refine loop_xu (O := O37) (tb := 37000) Ct37_ok hmix (by kernel_rfl) (σ := List Nat × List (Sd × Bool)) (fun x => [(5, .any)]) (fun x => [(2000037018, ents fkS fvT x.2), (2000037020, itc 2000037007 M.length x.1)]) (fun x => (x.1.Nodup ∧ ∀ i ∈ x.1, i < M.length) ∧ MR (RN t M x.1 0 0) x.2) (fun x => M.length - x.1.length) ([], []) ⟨⟨by simp, by simp⟩, by simp, fun T => by simp [RN]⟩ ?_ ?_
    · simp (maxSteps := 4000000) +contextual (disch := first | omega | exact qdb_ok (by kernel_rfl) | exact okb_ok (by kernel_rfl)) only [bw5,bw6,bc0,bc3,bc5,bc6,AV.isNilS,AV.isNoRows,wk,↓reduceIte,reduceCtorEq,Nat.reduceEqDiff,wks, eq_self]
      try exact trivial
    rintro ⟨seen, M2⟩ ⟨⟨hn1, hn2⟩, hM2⟩
    dsimp only at hn1 hn2 hM2 ⊢
    simp (maxSteps := 4000000) +contextual (disch := first | omega | exact qdb_ok (by kernel_rfl) | exact okb_ok (by kernel_rfl)) only [bw1,bw2,bw5,bw6,bc0,bc3,bb0,↓reduceIte,reduceCtorEq,Nat.reduceEqDiff, eq_self]
    refine nx_ents (fk := fkS) (fv := fvT) (M := M) (G := 2000037007) (h := 2000037020) (n := M.length) (seen := seen) rfl rfl rfl ?_ ?_ ?_
    · simp [AV.mencs, AV.menc, Sto.mencs, mencs_ents, itc]
    · intro hall
      simp (maxSteps := 4000000) +contextual (disch := first | omega | exact qdb_ok (by kernel_rfl) | exact okb_ok (by kernel_rfl)) only [bw1,bw2,bw5,bw6,bw7,bc0,bc1,bc2,bc3,bc4,bc5,bc6,binIs,extV,extS,AV.cells?,AV.menc,AV.one,↓reduceIte,reduceCtorEq,Nat.reduceAdd,Nat.reduceLeDiff,Nat.reduceLT,Nat.reduceEqDiff,tfb, eq_self, mencs_ents]
      refine ⟨mencs_itc, (k + 1, M2), ⟨⟨by dsimp only; omega, hM2.congr fun T => RN_step hM hn2 hall⟩, by dsimp only; omega⟩, ?_⟩
      refine gW.trans (gW_renB (g := 2000037018) (h := 2000037007) (b := 37004) (c := ents fkS fvT M2) (S' := [(0, []), (37004, [.mp 2000037007]), (2000037007, ents fkS fvT M2)]) (by decide) (by decide) (by decide) (by decide) rfl rfl ⟨mens_ents, mens_ents⟩ ?_) (gW.wk ?_ ?_)
      · intro q c' h
        simp only [Sto.get] at h
        split at h
        · subst q; cases h; exact .inr (.inr ⟨by decide, by decide, rfl⟩)
        split at h
        · subst q; cases h; exact .inr (.inl ⟨rfl, rfl⟩)
        split at h
        · subst q; cases h; exact .inl ⟨rfl, rfl⟩
        · cases h
      · simp (maxSteps := 4000000) +contextual (disch := first | omega | exact qdb_ok (by kernel_rfl) | exact okb_ok (by kernel_rfl)) only [bw4,bc3,bc4,bc5,bc6,AV.isNilS,AV.isNoRows,wk,↓reduceIte,reduceCtorEq,Nat.reduceBEq, eq_self]
      · simp (maxSteps := 4000000) +contextual (disch := first | omega | exact qdb_ok (by kernel_rfl) | exact okb_ok (by kernel_rfl)) only [bw5,bc0,bc3,bc5,bc6,AV.isNilS,AV.isNoRows,wk,↓reduceIte,reduceCtorEq,Nat.reduceEqDiff,wks, eq_self]
    · intro i hi hs
      have hfk : fkS (M.getD i default).1 = .agg (M.getD i default).1.v := rfl
      have hSB := stR_b (by omega) k _ (hM.at hi)
      have hSL := seen_lt hn1 hn2 hi hs
      simp (maxSteps := 4000000) +contextual (disch := first | omega | exact qdb_ok (by kernel_rfl) | exact okb_ok (by kernel_rfl)) only [bw1,bw2,bw3,bw5,bw6,bc0,bc1,bc2,bc3,bc4,bc5,bc6,bb0,extV,extS,AV.dl,AV.cells?,AV.menc,AV.one,D.one,Value.oneCell',packA,↓reduceIte,reduceCtorEq,Nat.reduceAdd,Nat.reduceSub,List.reduceReplicate,Nat.reduceLeDiff,Nat.reduceLT,Nat.reduceBEq,Nat.reduceEqDiff,tfb,en_ents,z37_61, eq_self, kill_ents, mencs_ents, kill_itc, mencs_itc, hfk]
      refine ⟨hi, ?_⟩
      refine rng_cutX (C := Ct37) Ct37_ok 1000037028 (σ := List (Sd × Bool)) (fun x => [(6, .any)]) (fun x => [(2000037018, ents fkS fvT x)]) (fun x => MR (RN t M (seen ++ [i]) 0 0) x) ?_ ?_
      · simp (maxSteps := 4000000) +contextual (disch := first | omega | exact qdb_ok (by kernel_rfl) | exact okb_ok (by kernel_rfl)) only [bw1,bw2,bw3,bw4,bw5,bw6,bc0,bc2,bc3,bc4,bc5,bc6,addF,AV.isPtr,AV.isSlice,AV.rows,↓reduceIte,reduceCtorEq,Nat.reduceAdd,Nat.reduceSub,List.reduceReplicate,Nat.reduceLeDiff,Nat.reduceLT,Nat.reduceBEq,Nat.reduceEqDiff,Int.reduceNeg,tfb,z37_70, eq_self]
        refine ⟨by rw [mens_ents, mens_ents]; simp [itc, AV.mens, AV.men], ?_⟩
        refine loop_xu (O := O70) (tb := 70000) Cy37_70_ok hmix (by kernel_rfl) (σ := Nat × List (Sd × Bool)) (fun x => [(11, .i x.1), (4, .any)]) (fun x => [(2000037018, ents fkS fvT x.2)]) (fun x => x.1 ≤ t.groups.length ∧ MR (RN t M seen i x.1) x.2) (fun x => t.groups.length - x.1) (0, M2) ⟨Nat.zero_le _, hM2.congr fun T => RN_zero⟩ ?_ ?_
        · simp (maxSteps := 4000000) +contextual (disch := first | omega | exact qdb_ok (by kernel_rfl) | exact okb_ok (by kernel_rfl)) only [bw4,bw5,bw6,bc0,bc3,bc5,bc6,AV.isNilS,AV.isNoRows,wk,↓reduceIte,reduceCtorEq,Nat.reduceEqDiff,wks, eq_self]
        rintro ⟨r, M3⟩ ⟨hr, hM3⟩
        dsimp only at hr hM3 ⊢
        have p1 : (ttOk t = true ∧ -1 ≤ (r : Int)) ∧ (0 ≤ (M.getD i default).1.h ∧ (M.getD i default).1.h < t.hours.length) ∧ ((M.getD i default).1.l = -1 ∨ 1 ≤ (M.getD i default).1.h) := by
          have h1 := hSB.1
          have h2 := hSB.2.1
          exact ⟨⟨ht, by omega⟩, ⟨by omega, by omega⟩, by omega⟩
        have p2 : (0 ≤ (M.getD i default).1.h ∧ (M.getD i default).1.h ≤ 1000) ∧ CnB (M.getD i default).1.n := ⟨by have h1 := hSB.1; omega, hSB.cn (by omega)⟩
        have hmo := hM3.ok (k := k + 1) (by omega) fun u hu => RN_b (by omega) hM hn2 hi hr hu
        by_cases hrt : r < t.groups.length
        · have hrt' : (r : Int) < t.groups.length := by omega
          by_cases hc : chB t (M.getD i default).1 r = true
          · have hc1 : erS t (M.getD i default).1 (r : Int) = 0 := of_decide_eq_true hc
            simp (maxSteps := 4000000) +contextual (disch := first | omega | exact qdb_ok (by kernel_rfl) | exact okb_ok (by kernel_rfl)) only [bw1,bw2,bw3,bw5,bw6,bw7,bc0,bc1,bc2,bc3,bc4,bc5,bc6,setPs,binIs,AV.outs,AV.outF,AV.dl,AV.menc,D.val?,↓reduceIte,reduceCtorEq,Nat.reduceAdd,Nat.reduceLeDiff,Nat.reduceLT,Nat.reduceEqDiff,Int.reduceNeg,tfb,D.flat,O37_10,x37o_56,cy37_70,yy37_70_28,x70_55,eq55, eq_self, mencs_ents, mencs_itc, hrt', hc1]
            have hkU := (stR_b (t := t) (by omega) (k + 1) (nxS (M.getD i default).1 (r : Int)) ⟨_, hM.at hi, .inr ⟨r, hrt, hc, rfl⟩⟩).key (by omega)
            refine ⟨p1, ⟨⟨by omega, by omega⟩, p2⟩, ⟨key86, hkU⟩, hmo, ?_⟩
            refine xUp_put (fk := fkS) (fv := fvT) (fkv := fkvS) (M := M3) (k := nxS (M.getD i default).1 (r : Int)) (v := true) fkS_val fkvS_inj rfl rfl hM3.1 (fun M' hn' hm' => ?_)
            have hM' := (hM3.put hn' hm').congr (fun T => (RN_yes hc).symm)
            simp (maxSteps := 4000000) +contextual (disch := first | omega | exact qdb_ok (by kernel_rfl) | exact okb_ok (by kernel_rfl)) only [bw1,bw2,bw3,bw5,bw6,bw7,bc0,bc1,bc2,bc3,bc4,bc5,bc6,AV.isNilS,AV.isNoRows,wk,binIs,↓reduceIte,reduceCtorEq,Nat.reduceAdd,Nat.reduceEqDiff,Int.reduceNeg,tfb,wks, eq_self]
            exact ⟨(r + 1, M'), ⟨⟨by dsimp only; omega, hM'⟩, by dsimp only; omega⟩, rfl, wk_self _⟩
          · have hc1 : ¬ erS t (M.getD i default).1 (r : Int) = 0 := fun h => hc (decide_eq_true h)
            simp (maxSteps := 4000000) +contextual (disch := first | omega | exact qdb_ok (by kernel_rfl) | exact okb_ok (by kernel_rfl)) only [bw1,bw2,bw3,bw5,bw6,bw7,bc0,bc1,bc2,bc3,bc4,bc5,bc6,AV.isNilS,AV.isNoRows,wk,binIs,AV.outs,AV.outF,AV.dl,↓reduceIte,reduceCtorEq,Nat.reduceAdd,Nat.reduceLeDiff,Nat.reduceEqDiff,Int.reduceNeg,tfb,D.flat,cy37_70,x70_55,eq55,wks, eq_self, hrt', hc1]
            exact ⟨p1, (r + 1, M3), ⟨⟨by dsimp only; omega, hM3.congr fun T => (RN_no hc).symm⟩, by dsimp only; omega⟩, rfl, wk_self _⟩
        have hrt' : ¬ (r : Int) < t.groups.length := by omega
        simp (maxSteps := 4000000) +contextual (disch := first | omega | exact qdb_ok (by kernel_rfl) | exact okb_ok (by kernel_rfl)) only [bw1,bw2,bw5,bw6,bw7,bc0,bc1,bc2,bc3,bc4,bc5,bc6,setPs,binIs,AV.dl,AV.menc,D.val?,↓reduceIte,reduceCtorEq,Nat.reduceAdd,Nat.reduceLeDiff,Nat.reduceLT,Nat.reduceEqDiff,Int.reduceNeg,Int.reduceLE,tfb,O37_10,x37o_56,yy37_70_28, eq_self, mencs_ents, mencs_itc, hrt']
        have hkU := (stR_b (t := t) (by omega) (k + 1) (nxS (M.getD i default).1 (-1)) ⟨_, hM.at hi, .inl rfl⟩).key (by omega)
        refine ⟨p2, ⟨key86, hkU⟩, hmo, ?_⟩
        refine xUp_put (fk := fkS) (fv := fvT) (fkv := fkvS) (M := M3) (k := nxS (M.getD i default).1 (-1)) (v := true) fkS_val fkvS_inj rfl rfl hM3.1 (fun M' hn' hm' => ?_)
        have hrn : r = t.groups.length := by omega
        rw [hrn] at hM3
        have hM' := (hM3.put hn' hm').congr (fun T => RN_next (i' := 0))
        simp (maxSteps := 4000000) +contextual (disch := first | omega | exact qdb_ok (by kernel_rfl) | exact okb_ok (by kernel_rfl)) only [bw1,bw2,bw3,bw5,bw6,bc0,bc1,bc2,bc3,bc4,bc5,bc6,AV.isNilS,AV.isNoRows,wk,↓reduceIte,reduceCtorEq,Nat.reduceAdd,Nat.reduceBEq,Nat.reduceEqDiff,Int.reduceNeg,wks, eq_self, kill_ents, kill_itc]
        exact ⟨M', hM', wk_self _⟩
      intro M3 hM3
      simp (maxSteps := 4000000) +contextual (disch := first | omega | exact qdb_ok (by kernel_rfl) | exact okb_ok (by kernel_rfl)) only [bw2,bw5,bw6,bc0,bc3,bc5,bc6,AV.isNilS,AV.isNoRows,wk,↓reduceIte,reduceCtorEq,Nat.reduceEqDiff,wks, eq_self]
      refine ⟨(seen ++ [i], M3), ⟨⟨⟨hSL.2.1, hSL.2.2⟩, hM3⟩, ?_⟩, wk_self _, wk_self _⟩
      have := hSL.1
      rw [List.length_append]
      simp only [List.length_cons, List.length_nil]
      omega
  have hlt' : ¬ (k : Int) < t.hours.length := by omega
  simp (maxSteps := 4000000) +contextual (disch := first | omega | exact qdb_ok (by kernel_rfl) | exact okb_ok (by kernel_rfl)) only [bw1,bw2,bw3,bw5,bw6,bw7,bc0,bc1,bc2,bc3,bc4,bc5,bc6,binIs,AV.dl,packA,↓reduceIte,tfb, eq_self, hlt']
  have e : k = t.hours.length := by omega
  rw [e] at hM
  exact hK M hM
def R37 (t : Tt) (r : AV) (s1 : Sto) : Prop := ∃ M, MR (stR t t.hours.length) M ∧ r = .clo (.func 62) [] [.ref 37004 0] ∧ s1 = [(0, []), (37004, [.mp 2000037007]), (2000037007, ents fkS fvT M)]
theorem all37 {t : Tt} (ht : ttOk t = true) : PFs Tryd.prog 37 [.ptr t.c 0] (R37 t) := PFs_of (does37 ht fun M hM => ⟨M, hM, rfl, rfl⟩)
theorem fls_ents (M : List (Sd × Bool)) : ∀ T, AV.fls T (ents fkS fvT M) = true := fun T => by
  unfold ents
  induction M with
  | nil => rfl
  | cons p M ih =>
    show (AV.fl T _ && AV.fls T _) = true
    rw [ih]; rfl
abbrev T37 : List Nat := [37004, 2000037007]
def sp37 (args : List AV) (K : AV → List AV → Sto → Prop) (e : List AV) (s : Sto) : Prop :=
  ∃ t, ttOk t = true ∧ AV.outs s args = some [.ptr t.c 0] ∧ FreeOk T37 e s ∧ ∀ M, MR (stR t t.hours.length) M → K (.clo (.func 62) [] [.ref 37004 0]) e ((37004, [.mp 2000037007]) :: (2000037007, ents fkS fvT M) :: s)
theorem sp37_ok {args : List AV} {K : AV → List AV → Sto → Prop} {Q : Kt} {e : List AV} {s : Sto} (h : sp37 args K e s) : pcall Tryd.prog 37 args K Q e s := by
  obtain ⟨t, ht, ha, hF, hK⟩ := h
  refine pcall_stoF (T := T37) hF (all37 ht) ha fun r s1 hr => ?_
  obtain ⟨M, hM, rfl, rfl⟩ := hr
  refine ⟨⟨rfl, fun g c hg hc => ?_⟩, hK M hM⟩
  simp only [Sto.get] at hc
  repeat' split at hc
  all_goals first | (cases hc; first | rfl | exact fls_ents M _) | (cases hc)
end Go.Proofs.YtofbbkacihnjdaaDoor
