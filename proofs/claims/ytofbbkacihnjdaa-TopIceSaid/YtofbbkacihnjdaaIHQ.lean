/- A part of the proof that the last text ends: what functions of the program do, told by plain data. -/
import Derived.Test.YtofbbkacihnjdaaIHP
import Derived.Test.YtofbbkacihnjdaaEc
set_option linter.unusedVariables false
set_option linter.unusedSimpArgs false
namespace Go.Proofs.Ytofbbkacihnjdaa
open Go Go.E Go.Maps
set_option maxRecDepth 100000
set_option maxHeartbeats 16000000
abbrev tC (t : Tt) : List AV := [.d (.sl 3 (t.hours.map Hr.c)), .d (.sl 5 (t.groups.map Gr.c)), .d (.i t.res)]
def O41 : Nat → Sch := fun id => .done
theorem ho41 : Try.f41.body.map (okO O41) = some true := by kernel_rfl
def Cf41 : Nat → List AV → (AV → List AV → Sto → Prop) → Kt → List AV → Sto → Prop := fun f args K Q e s => match f with
  | _ => False
def Ct41 : CT := { f := Cf41, y := noYld, z := fun d => false }
theorem ctz41 {d : Nat} : CT.z Ct41 d = (false) := id rfl
theorem Ct41_ok : Ct41.ok Try.prog := ok_of_f (fun f args K Q e s h => by
  have h : Cf41 f args K Q e s := h
  unfold Cf41 at h; split at h
  · exact h.elim) (fun _ _ _ _ _ _ _ _ _ h => h)
theorem c41 : callable Try.prog 41 = true := by kernel_rfl
def O57 : Nat → Sch := fun id => .done
theorem ho57 : Try.f57.body.map (okO O57) = some true := by kernel_rfl
def Cf57 : Nat → List AV → (AV → List AV → Sto → Prop) → Kt → List AV → Sto → Prop := fun f args K Q e s => match f with
  | 58 => ent58 (AV.outs s args) K (mk _) e s
  | _ => False
def Ct57 : CT := { f := Cf57, y := noYld, z := fun d => false }
theorem ctz57 {d : Nat} : CT.z Ct57 d = (false) := id rfl
theorem Ct57_ok : Ct57.ok Try.prog := ok_of_f (fun f args K Q e s h => by
  have h : Cf57 f args K Q e s := h
  unfold Cf57 at h; split at h
  · exact ent58_ok h
  · exact h.elim) (fun _ _ _ _ _ _ _ _ _ h => h)
theorem x57_58 {args : List AV} {KK : AV → List AV → Sto → Prop} {QQ : Kt} {ii : At KK} {jj : At QQ} {ee : List AV} {ss : Sto} : xC Ct57 58 args KK QQ ii jj ee ss = ent58 (AV.outs ss args) KK (mk _) ee ss := id rfl
theorem c57 : callable Try.prog 57 = true := by kernel_rfl
def O14 : Nat → Sch := fun id => if id = 10 then .one 1 (.one 2 (.alt (.one 0 (.one 3 (.one 4 (.done)))) (.one 3 (.one 0 (.one 4 (.done)))))) else .done
theorem O14_10 : O14 10 = .one 1 (.one 2 (.alt (.one 0 (.one 3 (.one 4 (.done)))) (.one 3 (.one 0 (.one 4 (.done)))))) := rfl
theorem ho14 : Try.f14.body.map (okO O14) = some true := by kernel_rfl
def Cf14o : Nat → List AV → (AV → List AV → Sto → Prop) → Kt → List AV → Sto → Prop := fun f args K Q e s => match f with
  | 40 => ent40 args K e s
  | 41 => inlE Try.prog Ct41 O41 41000 41 args K Q e s
  | 42 => ent42 args K e s
  | _ => False
def Ct14o : CT := { f := Cf14o, y := noYld, z := fun d => false }
theorem Ct14o_ok : Ct14o.ok Try.prog := ok_of_f (fun f args K Q e s h => by
  have h : Cf14o f args K Q e s := h
  unfold Cf14o at h; split at h
  · exact ent40_ok h
  · exact inlE_ok Ct41_ok hmix ho41 h
  · exact ent42_ok h
  · exact h.elim) (fun _ _ _ _ _ _ _ _ _ h => h)
def Yd14 : Nat → List Nat → Code → Code → List AV → (AV → List AV → Sto → Prop) → Kt → List AV → Sto → Prop := fun G ps asg bdy => if G / 1000 = 1000014 then yldE Try.prog Ct14o O14 14000 G ps asg bdy else fun _ _ _ _ _ => False
def Cy14_57 : CT := { f := Cf57, y := Yd14 }
theorem Cy14_57_ok : Cy14_57.ok Try.prog := ⟨Ct57_ok.f, fun g ps asg bdy args K Q e s h => by
  have h : Yd14 g ps asg bdy args K Q e s := h
  unfold Yd14 at h; split at h
  · exact yldE_ok Ct14o_ok hmix h
  · exact h.elim⟩
def Cf14 : Nat → List AV → (AV → List AV → Sto → Prop) → Kt → List AV → Sto → Prop := fun f args K Q e s => match f with
  | 40 => ent40 args K e s
  | 41 => inlE Try.prog Ct41 O41 41000 41 args K Q e s
  | 42 => ent42 args K e s
  | 57 => inlE Try.prog Cy14_57 O57 57000 57 args K Q e s
  | _ => False
def Ct14 : CT := { f := Cf14, y := noYld, z := fun d => false }
theorem Ct14_ok : Ct14.ok Try.prog := ok_of_f (fun f args K Q e s h => by
  have h : Cf14 f args K Q e s := h
  unfold Cf14 at h; split at h
  · exact ent40_ok h
  · exact inlE_ok Ct41_ok hmix ho41 h
  · exact ent42_ok h
  · exact inlE_ok Cy14_57_ok hmix ho57 h
  · exact h.elim) (fun _ _ _ _ _ _ _ _ _ h => h)
theorem z14_57 : type_of% (@xinl Try.prog Ct14 Cy14_57 O57 57000 57 _ _ _ _ rfl c57 Try.func57 rfl Try.ntmps57 Try.results57) := @xinl Try.prog Ct14 Cy14_57 O57 57000 57 _ _ _ _ rfl c57 Try.func57 rfl Try.ntmps57 Try.results57
theorem cy14_57 {n : Nat} {args : List AV} {K : AV → List AV → Sto → Prop} {Q : Kt} {i : At K} {j : At Q} {e : List AV} {s : Sto} : xC Cy14_57 n args K Q i j e s = xC Ct57 n args K Q i j e s := id rfl
theorem yy14_57_28 : type_of% (fun ps asg bdy => @xyld Try.prog Cy14_57 Ct14o O14 14000 1000014028 Yd14 rfl ps asg bdy (if_pos (by omega))) := fun ps asg bdy => @xyld Try.prog Cy14_57 Ct14o O14 14000 1000014028 Yd14 rfl ps asg bdy (if_pos (by omega))
theorem x14_40  {KK : AV → List AV → Sto → Prop} {QQ : Kt} {ii : At KK} {jj : At QQ} {ee : List AV} {ss : Sto} : xC Ct14 40 [] KK QQ ii jj ee ss = (KK (.d (.agg bgS.v)) ee ss) := eq40
theorem z14_41 : type_of% (@xinl Try.prog Ct14 Ct41 O41 41000 41 _ _ _ _ rfl c41 Try.func41 rfl Try.ntmps41 Try.results41) := @xinl Try.prog Ct14 Ct41 O41 41000 41 _ _ _ _ rfl c41 Try.func41 rfl Try.ntmps41 Try.results41
theorem x14o_42 {s : Sd} {g : Int} {KK : AV → List AV → Sto → Prop} {QQ : Kt} {ii : At KK} {jj : At QQ} {ee : List AV} {ss : Sto} : xC Ct14o 42 [.d (.agg s.v), .d (.i g)] KK QQ ii jj ee ss = (((-1 ≤ g ∧ g ≤ 4) ∧ (0 ≤ s.h ∧ s.h ≤ 1000) ∧ CnB s.n) ∧ KK (.d (.agg (nxS s g).v)) ee ss) := eq42
theorem c14 : callable Try.prog 14 = true := by kernel_rfl
theorem does37 {t : Tt} (ht : ttOk t = true) {K : AV → List AV → Sto → Prop} {Q : Kt} (hK : ∀ M, MR (stR t t.hours.length) M → K (.clo (.func 43) [] [.ref 14004 0]) [] [(0, []), (14004, [.mp 2000014007]), (2000014007, ents fkS fvT M)]) : pcall Try.prog 14 [.d (.ptr t.c 0)] K Q [] [(0, [])] := by
  have hbig := tt_hours ht
  refine pcall_start (O := O14) (tb := 14000) Ct14_ok hmix ho14 Try.func14 c14 rfl Try.ntmps14 Try.results14 ?_
  have hmok : mapOk Try.prog 93 [] := ents_ok' (M := ([] : List (Sd × Bool))) (fk := fkS) (fv := fvT) (fkv := fkvS) fkS_val (fun p hp => absurd hp List.not_mem_nil)
  have hko0 : (keyOf Try.prog 93 (Value.agg #[Value.int IntKind.i64 bgS.h, Value.int IntKind.i64 bgS.l, Value.int IntKind.i64 bgS.n.a, Value.int IntKind.i64 bgS.n.b, Value.int IntKind.i64 bgS.n.c, Value.int IntKind.i64 bgS.n.d, Value.int IntKind.i64 bgS.n.e])).isSome = true := (stR_b (t := t) (by omega) 0 bgS rfl).key (by omega)
  have cnf : cst Value.nilFunc = .d (.v .nilFunc) := rfl
  simp (maxSteps := 4000000) +contextual (disch := first | omega | exact qdb_ok (by kernel_rfl) | exact okb_ok (by kernel_rfl)) only [bw1,bw2,bw5,bw6,bc3,bc4,bc5,bc6,bb0,AV.menc,D.val?,↓reduceIte,reduceCtorEq,Nat.reduceAdd,Nat.reduceSub,List.reduceReplicate,Nat.reduceLT,tfb,p_insert,in_mp,x14_40, key86', hmok, cnf, hko0]
  refine xUp_put (fk := fkS) (fv := fvT) (fkv := fkvS) (M := ([] : List (Sd × Bool))) (k := bgS) (v := true) fkS_val fkvS_inj rfl rfl (by simp) (fun M0 hn0 hm0 => ?_)
  have hM0 : MR (stR t 0) M0 := ⟨hn0, fun T => by
    constructor
    · rintro ⟨w, hw⟩
      rcases (hm0 T w).1 hw with ⟨h1, _⟩ | ⟨_, h2⟩
      · exact h1
      · cases h2
    · intro h1
      exact ⟨true, (hm0 T true).2 (.inl ⟨h1, rfl⟩)⟩⟩
  clear hko0 hmok hn0 hm0
  simp (maxSteps := 4000000) +contextual (disch := first | omega | exact qdb_ok (by kernel_rfl) | exact okb_ok (by kernel_rfl)) only [bw1,bw2,bw4,bw5,bw6,bc2,bc3,bc4,bc5,bc6,addF,AV.isPtr,AV.isSlice,AV.rows,AV.cells?,AV.menc,AV.one,↓reduceIte,reduceCtorEq,Nat.reduceAdd,Nat.reduceLeDiff,Nat.reduceLT,Nat.reduceBEq,Nat.reduceEqDiff,tfb, eq_self, kill_ents, mencs_ents]
  refine loop_xg (O := O14) (tb := 14000) Ct14_ok hmix (by kernel_rfl) (σ := Nat × List (Sd × Bool)) (fun x => [(7, .any), (9, .any), (16, .i x.1)]) (fun x => [(0, []), (14004, [.mp 2000014007]), (2000014007, ents fkS fvT x.2)]) (fun x => x.1 ≤ t.hours.length ∧ MR (stR t x.1) x.2) (fun x => t.hours.length - x.1) (0, M0) ⟨Nat.zero_le _, hM0⟩ ?_ ?_
  · simp (maxSteps := 4000000) +contextual (disch := first | omega | exact qdb_ok (by kernel_rfl) | exact okb_ok (by kernel_rfl)) only [bw4,bw5,bw6,bc0,bc3,bc5,bc6,AV.isNilS,AV.isNoRows,wk,↓reduceIte,reduceCtorEq,Nat.reduceEqDiff,wks, eq_self]
  clear hM0 M0
  rintro ⟨k, M⟩ ⟨hk, hM⟩
  dsimp only at hk hM ⊢
  by_cases hlt : k < t.hours.length
  · have hlt' : (k : Int) < t.hours.length := by omega
    simp (maxSteps := 4000000) +contextual (disch := first | omega | exact qdb_ok (by kernel_rfl) | exact okb_ok (by kernel_rfl)) only [bw1,bw2,bw5,bw6,bw7,bc0,bc1,bc2,bc3,bc4,bc5,bc6,bb0,binIs,AV.cells?,AV.menc,AV.one,↓reduceIte,reduceCtorEq,Nat.reduceAdd,Nat.reduceLeDiff,Nat.reduceLT,Nat.reduceBEq,Nat.reduceEqDiff,tfb, eq_self, hlt', kill_ents, mencs_ents, pairs_ents_eq, ents_len]
    refine loop_xu (O := O14) (tb := 14000) Ct14_ok hmix (by kernel_rfl) (σ := List Nat × List (Sd × Bool)) (fun x => [(5, .any)]) (fun x => [(2000014018, ents fkS fvT x.2), (2000014020, itc 2000014007 M.length x.1)]) (fun x => (x.1.Nodup ∧ ∀ i ∈ x.1, i < M.length) ∧ MR (RN t M x.1 0 0) x.2) (fun x => M.length - x.1.length) ([], []) ⟨⟨by simp, by simp⟩, by simp, fun T => by simp [RN]⟩ ?_ ?_
    · simp (maxSteps := 4000000) +contextual (disch := first | omega | exact qdb_ok (by kernel_rfl) | exact okb_ok (by kernel_rfl)) only [bw5,bw6,bc0,bc3,bc5,bc6,AV.isNilS,AV.isNoRows,wk,↓reduceIte,reduceCtorEq,Nat.reduceEqDiff,wks, eq_self]
      try exact trivial
    rintro ⟨seen, M2⟩ ⟨⟨hn1, hn2⟩, hM2⟩
    dsimp only at hn1 hn2 hM2 ⊢
    simp (maxSteps := 4000000) +contextual (disch := first | omega | exact qdb_ok (by kernel_rfl) | exact okb_ok (by kernel_rfl)) only [bw1,bw2,bw5,bw6,bc0,bc3,bb0,↓reduceIte,reduceCtorEq,Nat.reduceEqDiff, eq_self]
    refine nx_ents (fk := fkS) (fv := fvT) (M := M) (G := 2000014007) (h := 2000014020) (n := M.length) (seen := seen) rfl rfl rfl ?_ ?_ ?_
    · simp [AV.mencs, AV.menc, Sto.mencs, mencs_ents, itc]
    · intro hall
      simp (maxSteps := 4000000) +contextual (disch := first | omega | exact qdb_ok (by kernel_rfl) | exact okb_ok (by kernel_rfl)) only [bw1,bw2,bw5,bw6,bw7,bc0,bc1,bc2,bc3,bc4,bc5,bc6,binIs,extV,extS,AV.cells?,AV.menc,AV.one,↓reduceIte,reduceCtorEq,Nat.reduceAdd,Nat.reduceLeDiff,Nat.reduceLT,Nat.reduceEqDiff,tfb, eq_self, mencs_ents]
      refine ⟨mencs_itc, (k + 1, M2), ⟨⟨by dsimp only; omega, hM2.congr fun T => RN_step hM hn2 hall⟩, by dsimp only; omega⟩, ?_⟩
      refine gW.trans (gW_renB (g := 2000014018) (h := 2000014007) (b := 14004) (c := ents fkS fvT M2) (S' := [(0, []), (14004, [.mp 2000014007]), (2000014007, ents fkS fvT M2)]) (by decide) (by decide) (by decide) (by decide) rfl rfl ⟨mens_ents, mens_ents⟩ ?_) (gW.wk ?_ ?_)
      · intro q c' h
        simp only [Sto.get] at h
        split at h
        · subst q; cases h; exact .inr (.inr ⟨by decide, by decide, rfl⟩)
        split at h
        · subst q; cases h; exact .inr (.inl ⟨rfl, rfl⟩)
        split at h
        · subst q; cases h; exact .inl ⟨rfl, rfl⟩
        · cases h
      · simp (maxSteps := 4000000) +contextual (disch := first | omega | exact qdb_ok (by kernel_rfl) | exact okb_ok (by kernel_rfl)) only [bw4,bc3,bc4,bc5,bc6,AV.isNilS,AV.isNoRows,wk,↓reduceIte,reduceCtorEq,Nat.reduceBEq, eq_self]
      · simp (maxSteps := 4000000) +contextual (disch := first | omega | exact qdb_ok (by kernel_rfl) | exact okb_ok (by kernel_rfl)) only [bw5,bc0,bc3,bc5,bc6,AV.isNilS,AV.isNoRows,wk,↓reduceIte,reduceCtorEq,Nat.reduceEqDiff,wks, eq_self]
    · intro i hi hs
      have hfk : fkS (M.getD i default).1 = .agg (M.getD i default).1.v := rfl
      have hSB := stR_b (by omega) k _ (hM.at hi)
      have hSL := seen_lt hn1 hn2 hi hs
      simp (maxSteps := 4000000) +contextual (disch := first | omega | exact qdb_ok (by kernel_rfl) | exact okb_ok (by kernel_rfl)) only [bw1,bw2,bw3,bw5,bw6,bc0,bc1,bc2,bc3,bc4,bc5,bc6,bb0,extV,extS,AV.dl,AV.cells?,AV.menc,AV.one,D.one,Value.oneCell',packA,↓reduceIte,reduceCtorEq,Nat.reduceAdd,Nat.reduceSub,List.reduceReplicate,Nat.reduceLeDiff,Nat.reduceLT,Nat.reduceBEq,Nat.reduceEqDiff,tfb,en_ents,z14_41, eq_self, kill_ents, mencs_ents, kill_itc, mencs_itc, hfk]
      refine ⟨hi, ?_⟩
      refine rng_cutX (C := Ct14) Ct14_ok 1000014028 (σ := List (Sd × Bool)) (fun x => [(6, .any)]) (fun x => [(2000014018, ents fkS fvT x)]) (fun x => MR (RN t M (seen ++ [i]) 0 0) x) ?_ ?_
      · simp (maxSteps := 4000000) +contextual (disch := first | omega | exact qdb_ok (by kernel_rfl) | exact okb_ok (by kernel_rfl)) only [bw1,bw2,bw3,bw4,bw5,bw6,bc0,bc2,bc3,bc4,bc5,bc6,addF,AV.isPtr,AV.isSlice,AV.rows,↓reduceIte,reduceCtorEq,Nat.reduceAdd,Nat.reduceSub,List.reduceReplicate,Nat.reduceLeDiff,Nat.reduceLT,Nat.reduceBEq,Nat.reduceEqDiff,Int.reduceNeg,tfb,z14_57, eq_self]
        refine ⟨by rw [mens_ents, mens_ents]; simp [itc, AV.mens, AV.men], ?_⟩
        refine loop_xu (O := O57) (tb := 57000) Cy14_57_ok hmix (by kernel_rfl) (σ := Nat × List (Sd × Bool)) (fun x => [(11, .i x.1), (4, .any)]) (fun x => [(2000014018, ents fkS fvT x.2)]) (fun x => x.1 ≤ t.groups.length ∧ MR (RN t M seen i x.1) x.2) (fun x => t.groups.length - x.1) (0, M2) ⟨Nat.zero_le _, hM2.congr fun T => RN_zero⟩ ?_ ?_
        · simp (maxSteps := 4000000) +contextual (disch := first | omega | exact qdb_ok (by kernel_rfl) | exact okb_ok (by kernel_rfl)) only [bw4,bw5,bw6,bc0,bc3,bc5,bc6,AV.isNilS,AV.isNoRows,wk,↓reduceIte,reduceCtorEq,Nat.reduceEqDiff,wks, eq_self]
        rintro ⟨r, M3⟩ ⟨hr, hM3⟩
        dsimp only at hr hM3 ⊢
        have p1 : (ttOk t = true ∧ -1 ≤ (r : Int)) ∧ (0 ≤ (M.getD i default).1.h ∧ (M.getD i default).1.h < t.hours.length) ∧ ((M.getD i default).1.l = -1 ∨ 1 ≤ (M.getD i default).1.h) := by
          have h1 := hSB.1
          have h2 := hSB.2.1
          exact ⟨⟨ht, by omega⟩, ⟨by omega, by omega⟩, by omega⟩
        have p2 : (0 ≤ (M.getD i default).1.h ∧ (M.getD i default).1.h ≤ 1000) ∧ CnB (M.getD i default).1.n := ⟨by have h1 := hSB.1; omega, hSB.cn (by omega)⟩
        have hmo := hM3.ok (k := k + 1) (by omega) fun u hu => RN_b (by omega) hM hn2 hi hr hu
        by_cases hrt : r < t.groups.length
        · have hrt' : (r : Int) < t.groups.length := by omega
          by_cases hc : chB t (M.getD i default).1 r = true
          · have hc1 : erS t (M.getD i default).1 (r : Int) = 0 := of_decide_eq_true hc
            simp (maxSteps := 4000000) +contextual (disch := first | omega | exact qdb_ok (by kernel_rfl) | exact okb_ok (by kernel_rfl)) only [bw1,bw2,bw3,bw5,bw6,bw7,bc0,bc1,bc2,bc3,bc4,bc5,bc6,setPs,binIs,AV.outs,AV.outF,AV.dl,AV.menc,D.val?,↓reduceIte,reduceCtorEq,Nat.reduceAdd,Nat.reduceLeDiff,Nat.reduceLT,Nat.reduceEqDiff,Int.reduceNeg,tfb,D.flat,O14_10,x14o_42,cy14_57,yy14_57_28,x57_58,eq58, eq_self, mencs_ents, mencs_itc, hrt', hc1]
            have hkU := (stR_b (t := t) (by omega) (k + 1) (nxS (M.getD i default).1 (r : Int)) ⟨_, hM.at hi, .inr ⟨r, hrt, hc, rfl⟩⟩).key (by omega)
            refine ⟨p1, ⟨⟨by omega, by omega⟩, p2⟩, ⟨key86, hkU⟩, hmo, ?_⟩
            refine xUp_put (fk := fkS) (fv := fvT) (fkv := fkvS) (M := M3) (k := nxS (M.getD i default).1 (r : Int)) (v := true) fkS_val fkvS_inj rfl rfl hM3.1 (fun M' hn' hm' => ?_)
            have hM' := (hM3.put hn' hm').congr (fun T => (RN_yes hc).symm)
            simp (maxSteps := 4000000) +contextual (disch := first | omega | exact qdb_ok (by kernel_rfl) | exact okb_ok (by kernel_rfl)) only [bw1,bw2,bw3,bw5,bw6,bw7,bc0,bc1,bc2,bc3,bc4,bc5,bc6,AV.isNilS,AV.isNoRows,wk,binIs,↓reduceIte,reduceCtorEq,Nat.reduceAdd,Nat.reduceEqDiff,Int.reduceNeg,tfb,wks, eq_self]
            exact ⟨(r + 1, M'), ⟨⟨by dsimp only; omega, hM'⟩, by dsimp only; omega⟩, rfl, wk_self _⟩
          · have hc1 : ¬ erS t (M.getD i default).1 (r : Int) = 0 := fun h => hc (decide_eq_true h)
            simp (maxSteps := 4000000) +contextual (disch := first | omega | exact qdb_ok (by kernel_rfl) | exact okb_ok (by kernel_rfl)) only [bw1,bw2,bw3,bw5,bw6,bw7,bc0,bc1,bc2,bc3,bc4,bc5,bc6,AV.isNilS,AV.isNoRows,wk,binIs,AV.outs,AV.outF,AV.dl,↓reduceIte,reduceCtorEq,Nat.reduceAdd,Nat.reduceLeDiff,Nat.reduceEqDiff,Int.reduceNeg,tfb,D.flat,cy14_57,x57_58,eq58,wks, eq_self, hrt', hc1]
            exact ⟨p1, (r + 1, M3), ⟨⟨by dsimp only; omega, hM3.congr fun T => (RN_no hc).symm⟩, by dsimp only; omega⟩, rfl, wk_self _⟩
        have hrt' : ¬ (r : Int) < t.groups.length := by omega
        simp (maxSteps := 4000000) +contextual (disch := first | omega | exact qdb_ok (by kernel_rfl) | exact okb_ok (by kernel_rfl)) only [bw1,bw2,bw5,bw6,bw7,bc0,bc1,bc2,bc3,bc4,bc5,bc6,setPs,binIs,AV.dl,AV.menc,D.val?,↓reduceIte,reduceCtorEq,Nat.reduceAdd,Nat.reduceLeDiff,Nat.reduceLT,Nat.reduceEqDiff,Int.reduceNeg,Int.reduceLE,tfb,O14_10,x14o_42,yy14_57_28, eq_self, mencs_ents, mencs_itc, hrt']
        have hkU := (stR_b (t := t) (by omega) (k + 1) (nxS (M.getD i default).1 (-1)) ⟨_, hM.at hi, .inl rfl⟩).key (by omega)
        refine ⟨p2, ⟨key86, hkU⟩, hmo, ?_⟩
        refine xUp_put (fk := fkS) (fv := fvT) (fkv := fkvS) (M := M3) (k := nxS (M.getD i default).1 (-1)) (v := true) fkS_val fkvS_inj rfl rfl hM3.1 (fun M' hn' hm' => ?_)
        have hrn : r = t.groups.length := by omega
        rw [hrn] at hM3
        have hM' := (hM3.put hn' hm').congr (fun T => RN_next (i' := 0))
        simp (maxSteps := 4000000) +contextual (disch := first | omega | exact qdb_ok (by kernel_rfl) | exact okb_ok (by kernel_rfl)) only [bw1,bw2,bw3,bw5,bw6,bc0,bc1,bc2,bc3,bc4,bc5,bc6,AV.isNilS,AV.isNoRows,wk,↓reduceIte,reduceCtorEq,Nat.reduceAdd,Nat.reduceBEq,Nat.reduceEqDiff,Int.reduceNeg,wks, eq_self, kill_ents, kill_itc]
        exact ⟨M', hM', wk_self _⟩
      intro M3 hM3
      simp (maxSteps := 4000000) +contextual (disch := first | omega | exact qdb_ok (by kernel_rfl) | exact okb_ok (by kernel_rfl)) only [bw2,bw5,bw6,bc0,bc3,bc5,bc6,AV.isNilS,AV.isNoRows,wk,↓reduceIte,reduceCtorEq,Nat.reduceEqDiff,wks, eq_self]
      refine ⟨(seen ++ [i], M3), ⟨⟨⟨hSL.2.1, hSL.2.2⟩, hM3⟩, ?_⟩, wk_self _, wk_self _⟩
      have := hSL.1
      rw [List.length_append]
      simp only [List.length_cons, List.length_nil]
      omega
  have hlt' : ¬ (k : Int) < t.hours.length := by omega
  simp (maxSteps := 4000000) +contextual (disch := first | omega | exact qdb_ok (by kernel_rfl) | exact okb_ok (by kernel_rfl)) only [bw1,bw2,bw3,bw5,bw6,bw7,bc0,bc1,bc2,bc3,bc4,bc5,bc6,binIs,AV.dl,packA,↓reduceIte,tfb, eq_self, hlt']
  have e : k = t.hours.length := by omega
  rw [e] at hM
  exact hK M hM
def R37 (t : Tt) (r : AV) (s1 : Sto) : Prop := ∃ M, MR (stR t t.hours.length) M ∧ r = .clo (.func 43) [] [.ref 14004 0] ∧ s1 = [(0, []), (14004, [.mp 2000014007]), (2000014007, ents fkS fvT M)]
theorem all37 {t : Tt} (ht : ttOk t = true) : PFs Try.prog 14 [.ptr t.c 0] (R37 t) := PFs_of (does37 ht fun M hM => ⟨M, hM, rfl, rfl⟩)
theorem fls_ents (M : List (Sd × Bool)) : ∀ T, AV.fls T (ents fkS fvT M) = true := fun T => by
  unfold ents
  induction M with
  | nil => rfl
  | cons p M ih =>
    show (AV.fl T _ && AV.fls T _) = true
    rw [ih]; rfl
abbrev T37 : List Nat := [14004, 2000014007]
def sp14 (args : List AV) (K : AV → List AV → Sto → Prop) (e : List AV) (s : Sto) : Prop :=
  ∃ t, ttOk t = true ∧ AV.outs s args = some [.ptr t.c 0] ∧ FreeOk T37 e s ∧ ∀ M, MR (stR t t.hours.length) M → K (.clo (.func 43) [] [.ref 14004 0]) e ((14004, [.mp 2000014007]) :: (2000014007, ents fkS fvT M) :: s)
theorem sp14_ok {args : List AV} {K : AV → List AV → Sto → Prop} {Q : Kt} {e : List AV} {s : Sto} (h : sp14 args K e s) : pcall Try.prog 14 args K Q e s := by
  obtain ⟨t, ht, ha, hF, hK⟩ := h
  refine pcall_stoF (T := T37) hF (all37 ht) ha fun r s1 hr => ?_
  obtain ⟨M, hM, rfl, rfl⟩ := hr
  refine ⟨⟨rfl, fun g c hg hc => ?_⟩, hK M hM⟩
  simp only [Sto.get] at hc
  repeat' split at hc
  all_goals first | (cases hc; first | rfl | exact fls_ents M _) | (cases hc)
end Go.Proofs.Ytofbbkacihnjdaa
