/- A part of the proof that the last text ends: what functions of the program do, told by plain data. -/
import Derived.Test.YtofbbkacihnjdaaTIq
import Derived.Test.YtofbbkacihnjdaaIHPa
set_option linter.unusedVariables false
set_option linter.unusedSimpArgs false
namespace Go.Proofs.Ytofbbkacihnjdaa.Ic
open Go Go.E Go.Maps
set_option maxRecDepth 100000
set_option maxHeartbeats 16000000
def sp4 (args : List AV) (K : AV → List AV → Sto → Prop) (e : List AV) (s : Sto) : Prop := args = [] ∧ K (.d (.b true)) e s
theorem sp4_ok {args : List AV} {K : AV → List AV → Sto → Prop} {Q : Kt} {e : List AV} {s : Sto} (h : sp4 args K e s) : pcall Try.prog 4 args K Q e s := by
  obtain ⟨rfl, h⟩ := h
  exact pcall_d (ds := []) A6.pf4 (fun d hd => by cases hd; exact h) (fun c hc => by cases hc)
theorem call4x {C : CT} {args e : List AV} {s : Sto} {K : AV → List AV → Sto → Prop} {Q : Kt} {i : At K} {j : At Q} (hC : ∀ {args K Q e s} {i : At K} {j : At Q}, xC C 4 args K Q i j e s = sp4 args K e s) (h1 : args = []) (h2 : K (.d (.b true)) e s) : xC C 4 args K Q i j e s := by
  rw [hC]; exact ⟨h1, h2⟩
def cntN (p : List Int) : Nat → Nat
  | 0 => 0
  | k + 1 => cntN p k + if p.getD k default = -1 then 0 else 1
theorem cnt_le {p : List Int} : ∀ k, cntN p k ≤ k
  | 0 => Nat.le_refl _
  | k + 1 => by have := cnt_le (p := p) k; unfold cntN; split <;> omega
theorem wa_law {r : List Zo} {worn planed : Pn} {p : Nat} {least most : Int} {w : Pn} (hp1 : 1 ≤ p) (hp2 : p ≤ 14) (h : waR r worn planed (p : Int) least most = (w, 0)) : rkOk r = true ∧ (∀ v, 0 ≤ v ∧ v ≤ 20000 → KpOk r worn planed p least most v) ∧ (0 ≤ w.lo ∧ w.lo ≤ w.hi ∧ w.hi ≤ 20000) ∧ kpB r worn planed p least most w.lo = true ∧ kpB r worn planed p least most w.hi = true ∧ (0 < w.lo → kpB r worn planed p least most (w.lo - 1) = false) ∧ (w.hi < 20000 → kpB r worn planed p least most (w.hi + 1) = false) := by
  unfold waR at h
  by_cases c1 : rkOk r = true ∧ worn.ok = true ∧ planed.ok = true
  case neg => rw [if_neg c1] at h; cases (Prod.mk.inj h).2
  rw [if_pos c1] at h
  by_cases c2 : inB (p : Int) 1 100 = true ∧ inB most 0 20000 = true ∧ inB least 0 most = true
  case neg => rw [if_neg c2] at h; cases (Prod.mk.inj h).2
  rw [if_pos c2, Int.toNat_natCast] at h
  obtain ⟨A, hA⟩ : ∃ A, wtN r p worn planed true least = A := ⟨_, rfl⟩
  obtain ⟨B, hB⟩ : ∃ B, wtN r p worn planed false most = B := ⟨_, rfl⟩
  rw [hA, hB] at h
  by_cases c3 : B ≤ A
  · rw [if_pos c3] at h; cases (Prod.mk.inj h).2
  rw [if_neg c3] at h
  obtain ⟨rfl, _⟩ := Prod.mk.inj h
  have hBb : B ≤ 20001 := by rw [← hB]; exact (srch_le 32 0 20001 (by omega)).2
  obtain ⟨hA1, hA2⟩ := wt_law (r := r) (p := p) (worn := worn) (planed := planed) (kd := true) (lim := least)
  obtain ⟨hB1, hB2⟩ := wt_law (r := r) (p := p) (worn := worn) (planed := planed) (kd := false) (lim := most)
  rw [hA] at hA1 hA2
  rw [hB] at hB1 hB2
  have hok : ∀ v, 0 ≤ v ∧ v ≤ 20000 → KpOk r worn planed p least most v := fun v hv => ⟨c1.1, c1.2.1, c1.2.2, hp1, hp2, by rw [c2.2.1, c2.2.2]; rfl, hv.1, hv.2⟩
  have hno : ∀ (v : Nat), v ≤ 20000 → (wtB r p worn planed true least (v : Int) = false ∨ wtB r p worn planed false most (v : Int) = true) → kpB r worn planed p least most (v : Int) = false := fun v hv ho => by
    refine Bool.eq_false_iff.2 fun hk => ?_
    obtain ⟨k1, k2⟩ := (kp_law (hok v ⟨by omega, by omega⟩)).1 hk
    rcases ho with ho | ho
    · rw [ho] at k1; cases k1
    · rw [ho] at k2; cases k2
  refine ⟨c1.1, hok, ⟨by dsimp only; omega, by dsimp only; omega, by dsimp only; omega⟩, ?_, ?_, fun h0 => ?_, fun h0 => ?_⟩
  · exact (kp_law (hok _ ⟨by dsimp only; omega, by dsimp only; omega⟩)).2 ⟨hA2 A (Nat.le_refl _) (by omega), hB1 A (by omega)⟩
  · have e : (B : Int) - 1 = ((B - 1 : Nat) : Int) := by omega
    dsimp only
    rw [e]
    exact (kp_law (hok _ ⟨by omega, by omega⟩)).2 ⟨hA2 (B - 1) (by omega) (by omega), hB1 (B - 1) (by omega)⟩
  · dsimp only at h0 ⊢
    have e : (A : Int) - 1 = ((A - 1 : Nat) : Int) := by omega
    rw [e]
    exact hno (A - 1) (by omega) (.inl (hA1 (A - 1) (by omega)))
  · dsimp only at h0 ⊢
    have e : (B : Int) - 1 + 1 = ((B : Nat) : Int) := by omega
    rw [e]
    exact hno B (by omega) (.inr (hB2 B (Nat.le_refl _) (by omega)))
theorem wa_zero {r : List Zo} {worn planed : Pn} {least most : Int} : (waR r worn planed 0 least most).2 = 1 ∨ (waR r worn planed 0 least most).2 = 2 := by
  unfold waR
  split
  · rw [if_neg (fun h => by have := h.1; revert this; decide)]; exact .inr rfl
  · exact .inl rfl
theorem wa_err {r : List Zo} {worn planed : Pn} {p least most : Int} (h : (waR r worn planed p least most).2 ≠ 0) : (waR r worn planed p least most).1 = ⟨0, 0⟩ := by
  unfold waR at h ⊢
  split
  · rename_i c1
    rw [if_pos c1] at h
    split
    · rename_i c2
      rw [if_pos c2] at h
      split
      · rfl
      · rename_i c3; rw [if_neg c3] at h; exact absurd rfl h
    · rfl
  · rfl
def O3 : Nat → Sch := fun id => .done
theorem ho3 : Try.f3.body.map (okO O3) = some true := by kernel_rfl
def Cf3 : Nat → List AV → (AV → List AV → Sto → Prop) → Kt → List AV → Sto → Prop := fun f args K Q e s => match f with
  | 4 => sp4 args K e s
  | 5 => ent5 args K e s
  | 6 => ent6 args K e s
  | 7 => ent7 args K e s
  | 8 => ent8 args K e s
  | 9 => ent9 args K e s
  | 10 => ent10 (AV.outs s args) K (mk _) e s
  | _ => False
def Ct3 : CT := { f := Cf3, y := noYld, z := fun d => false }
theorem Ct3_ok : Ct3.ok Try.prog := ok_of_f (fun f args K Q e s h => by
  have h : Cf3 f args K Q e s := h
  unfold Cf3 at h; split at h
  · exact sp4_ok h
  · exact ent5_ok h
  · exact ent6_ok h
  · exact ent7_ok h
  · exact ent8_ok h
  · exact ent9_ok h
  · exact ent10_ok h
  · exact h.elim) (fun _ _ _ _ _ _ _ _ _ h => h)
theorem x3_5 {t : Tt} {KK : AV → List AV → Sto → Prop} {QQ : Kt} {ii : At KK} {jj : At QQ} {ee : List AV} {ss : Sto} : xC Ct3 5 [.d (.agg t.c)] KK QQ ii jj ee ss = (((t.hours.length ≤ 1000 ∧ t.groups.length ≤ 1000)) ∧ KK (.d (.tup [.sl 1 ((frR t).1.map ic), .i (frR t).2])) ee ss) := eq5
theorem x3_6 {t : Tt} {KK : AV → List AV → Sto → Prop} {QQ : Kt} {ii : At KK} {jj : At QQ} {ee : List AV} {ss : Sto} : xC Ct3 6 [.d (.agg t.c)] KK QQ ii jj ee ss = ((t.hours.length ≤ 1000 ∧ t.groups.length ≤ 1000) ∧ KK (.d (.b (ttOk t))) ee ss) := eq6
theorem x3_7 {t : Tt} {p : List Int} {KK : AV → List AV → Sto → Prop} {QQ : Kt} {ii : At KK} {jj : At QQ} {ee : List AV} {ss : Sto} : xC Ct3 7 [.d (.agg t.c), .d (.sl 1 (p.map ic))] KK QQ ii jj ee ss = ((t.groups.length ≤ 1000 ∧ p.length ≤ 1000) ∧ KK (.d (.b (plOk t p))) ee ss) := eq7
theorem x3_8 {r : List Zo} {worn : Pn} {planed : Pn} {p : Int} {least : Int} {most : Int} {KK : AV → List AV → Sto → Prop} {QQ : Kt} {ii : At KK} {jj : At QQ} {ee : List AV} {ss : Sto} : xC Ct3 8 [.d (.sl 4 (r.map Zo.c)), .d (.agg worn.c), .d (.agg planed.c), .d (.i p), .d (.i least), .d (.i most)] KK QQ ii jj ee ss = ((r.length ≤ 1000) ∧ KK (.d (.tup [.agg (waR r worn planed p least most).1.c, .i (waR r worn planed p least most).2])) ee ss) := eq8
theorem x3_9 {r : List Zo} {KK : AV → List AV → Sto → Prop} {QQ : Kt} {ii : At KK} {jj : At QQ} {ee : List AV} {ss : Sto} : xC Ct3 9 [.d (.sl 4 (r.map Zo.c))] KK QQ ii jj ee ss = (KK (.d (.b (rkOk r))) ee ss) := eq9
theorem x3_10 {args : List AV} {KK : AV → List AV → Sto → Prop} {QQ : Kt} {ii : At KK} {jj : At QQ} {ee : List AV} {ss : Sto} : xC Ct3 10 args KK QQ ii jj ee ss = ent10 (AV.outs ss args) KK (mk _) ee ss := id rfl
theorem c3 : callable Try.prog 3 = true := by kernel_rfl
theorem pf3 (t : Tt) (r : List Zo) (worn planed : Pn) (least most : Int) : PF Try.prog 3 [.agg t.c, .sl 4 (r.map Zo.c), .agg worn.c, .agg planed.c, .i least, .i most] (fun zz => zz = .ret (.b true)) := by
  by_cases g : t.groups.length ≤ 8 ∧ t.hours.length ≤ 14 ∧ r.length ≤ 24
  case neg =>
    by_cases g1 : t.groups.length ≤ 8
    case neg =>
      have g1' : (8 : Int) < t.groups.length := by omega
      refine PF_nil (PF_start (O := O3) Ct3_ok hmix ho3 Try.func3 c3 rfl Try.ntmps3 Try.results3 ?_)
      simp (maxSteps := 4000000) +contextual (disch := first | exact lit_lt rfl | omega | exact qdb_ok (by kernel_rfl) | exact okb_ok (by kernel_rfl)) only [bw1,bw2,bw3,bw4,bw5,bw6,bw7,bc0,bc1,bc2,bc3,bc4,bc5,bc6,binIs,addF,AV.isPtr,AV.isSlice,AV.rows,AV.cells?,Value.oneCell',↓reduceIte,reduceCtorEq,Nat.reduceAdd,Nat.reduceSub,List.reduceReplicate,Nat.reduceLeDiff,Nat.reduceLT,Nat.reduceBEq,Nat.reduceEqDiff,Int.reduceNeg,tfb,g1']
      refine call4x (C := Ct3) (i := mk _) (j := mk _) rfl rfl ?_
      simp (maxSteps := 4000000) +contextual (disch := first | exact lit_lt rfl | omega | exact qdb_ok (by kernel_rfl) | exact okb_ok (by kernel_rfl)) only [bw2,bw3,bw5,bw6,bc2,bc3,bc4,bc5,AV.outs,AV.outF,packD,↓reduceIte,Int.reduceNeg]
    have g1' : ¬ (8 : Int) < t.groups.length := by omega
    by_cases g2 : t.hours.length ≤ 14
    case neg =>
      have g2' : (14 : Int) < t.hours.length := by omega
      refine PF_nil (PF_start (O := O3) Ct3_ok hmix ho3 Try.func3 c3 rfl Try.ntmps3 Try.results3 ?_)
      simp (maxSteps := 4000000) +contextual (disch := first | exact lit_lt rfl | omega | exact qdb_ok (by kernel_rfl) | exact okb_ok (by kernel_rfl)) only [bw1,bw2,bw3,bw4,bw5,bw6,bw7,bc0,bc1,bc2,bc3,bc4,bc5,bc6,binIs,addF,AV.isPtr,AV.isSlice,AV.rows,AV.cells?,Value.oneCell',↓reduceIte,reduceCtorEq,Nat.reduceAdd,Nat.reduceSub,List.reduceReplicate,Nat.reduceLeDiff,Nat.reduceLT,Nat.reduceBEq,Nat.reduceEqDiff,Int.reduceNeg,tfb,g1', g2']
      refine call4x (C := Ct3) (i := mk _) (j := mk _) rfl rfl ?_
      simp (maxSteps := 4000000) +contextual (disch := first | exact lit_lt rfl | omega | exact qdb_ok (by kernel_rfl) | exact okb_ok (by kernel_rfl)) only [bw2,bw3,bw5,bw6,bc2,bc3,bc4,bc5,AV.outs,AV.outF,packD,↓reduceIte,Int.reduceNeg]
    have g2' : ¬ (14 : Int) < t.hours.length := by omega
    have g3' : (24 : Int) < r.length := by omega
    refine PF_nil (PF_start (O := O3) Ct3_ok hmix ho3 Try.func3 c3 rfl Try.ntmps3 Try.results3 ?_)
    simp (maxSteps := 4000000) +contextual (disch := first | exact lit_lt rfl | omega | exact qdb_ok (by kernel_rfl) | exact okb_ok (by kernel_rfl)) only [bw1,bw2,bw3,bw4,bw5,bw6,bw7,bc0,bc1,bc2,bc3,bc4,bc5,bc6,binIs,addF,AV.isPtr,AV.isSlice,AV.rows,AV.cells?,Value.oneCell',↓reduceIte,reduceCtorEq,Nat.reduceAdd,Nat.reduceSub,List.reduceReplicate,Nat.reduceLeDiff,Nat.reduceLT,Nat.reduceBEq,Nat.reduceEqDiff,Int.reduceNeg,tfb,g1', g2', g3']
    refine call4x (C := Ct3) (i := mk _) (j := mk _) rfl rfl ?_
    simp (maxSteps := 4000000) +contextual (disch := first | exact lit_lt rfl | omega | exact qdb_ok (by kernel_rfl) | exact okb_ok (by kernel_rfl)) only [bw2,bw3,bw5,bw6,bc2,bc3,bc4,bc5,AV.outs,AV.outF,packD,↓reduceIte,Int.reduceNeg]
  obtain ⟨g1, g2, g3⟩ := g
  have g1' : ¬ (8 : Int) < t.groups.length := by omega
  have g2' : ¬ (14 : Int) < t.hours.length := by omega
  have g3' : ¬ (24 : Int) < r.length := by omega
  have hsz : t.hours.length ≤ 1000 ∧ t.groups.length ≤ 1000 := by omega
  have hr1000 : r.length ≤ 1000 := by omega
  by_cases ht : ttOk t = true
  case neg =>
    have hfr : frR t = ([], 1) := by unfold frR; rw [if_neg ht]
    refine PF_nil (PF_start (O := O3) Ct3_ok hmix ho3 Try.func3 c3 rfl Try.ntmps3 Try.results3 ?_)
    simp (maxSteps := 4000000) +contextual (disch := first | exact lit_lt rfl | omega | exact qdb_ok (by kernel_rfl) | exact okb_ok (by kernel_rfl)) only [bw1,bw2,bw3,bw4,bw5,bw6,bw7,bc0,bc1,bc2,bc3,bc4,bc5,bc6,binIs,addF,AV.isPtr,AV.isSlice,AV.rows,extV,extS,AV.dl,AV.cells?,Value.oneCell',↓reduceIte,reduceCtorEq,Nat.reduceAdd,Nat.reduceSub,List.reduceReplicate,Nat.reduceLeDiff,Nat.reduceLT,Nat.reduceBEq,Nat.reduceEqDiff,Int.reduceNeg,Int.reduceEq,tfb,x3_5,g1', g2', g3', hsz, hfr]
    refine call4x (C := Ct3) (i := mk _) (j := mk _) rfl rfl ?_
    simp (maxSteps := 4000000) +contextual (disch := first | exact lit_lt rfl | omega | exact qdb_ok (by kernel_rfl) | exact okb_ok (by kernel_rfl)) only [bw2,bw3,bw5,bw6,bc0,bc2,bc3,bc4,bc5,AV.outs,AV.outF,packD,↓reduceIte,Int.reduceNeg]
  obtain ⟨p, hfr, hp, _⟩ := fr_law ht
  have hpl := hp.1
  have hpf := pl_fo hpl
  have hp1000 : p.length ≤ 1000 := by omega
  have hp14 : p.length ≤ 14 := by omega
  have hsz2 : t.groups.length ≤ 1000 ∧ p.length ≤ 1000 := by omega
  refine PF_nil (PF_start (O := O3) Ct3_ok hmix ho3 Try.func3 c3 rfl Try.ntmps3 Try.results3 ?_)
  simp (maxSteps := 4000000) +contextual (disch := first | exact lit_lt rfl | omega | exact qdb_ok (by kernel_rfl) | exact okb_ok (by kernel_rfl)) only [bw1,bw2,bw3,bw4,bw5,bw6,bw7,bc0,bc1,bc2,bc3,bc4,bc5,bc6,binIs,addF,AV.isPtr,AV.isSlice,AV.rows,extV,extS,AV.dl,AV.cells?,AV.menc,AV.one,D.one,Value.oneCell',↓reduceIte,reduceCtorEq,Nat.reduceAdd,Nat.reduceSub,List.reduceReplicate,Nat.reduceLeDiff,Nat.reduceLT,Nat.reduceBEq,Nat.reduceEqDiff,Int.reduceNeg,tfb,x3_5,x3_6,x3_7,g1', g2', g3', hsz, hfr, ht, hpl, hsz2]
  refine loop_xu (O := O3) (tb := 0) Ct3_ok hmix (by kernel_rfl) (σ := Nat) (fun k => [(61, .i k), (17, .any)]) (fun k => [(16, [.i (cntN p k : Int)])]) (fun k => k ≤ p.length) (fun k => p.length - k) 0 (Nat.zero_le _) ?_ ?_
  · simp (maxSteps := 4000000) +contextual (disch := first | exact lit_lt rfl | omega | exact qdb_ok (by kernel_rfl) | exact okb_ok (by kernel_rfl)) only [bw4,bw5,bw6,bc0,bc3,bc5,bc6,AV.isNilS,AV.isNoRows,wk,↓reduceIte,reduceCtorEq,Nat.reduceEqDiff,eq_self, cntN]
  intro k hk
  have hck := cnt_le (p := p) k
  by_cases hlt : k < p.length
  · have hlt' : (k : Int) < p.length := by omega
    have hrow : (p.map ic).getD k [] = ic (p.getD k default) := Go.E.row_at hlt
    by_cases c : p.getD k default = -1
    · have hcb : (p.getD k default != -1) = false := by rw [c]; decide
      have hcn : cntN p (k + 1) = cntN p k := by rw [cntN, if_pos c]; rfl
      simp (maxSteps := 4000000) +contextual (disch := first | exact lit_lt rfl | omega | exact qdb_ok (by kernel_rfl) | exact okb_ok (by kernel_rfl)) only [bw1,bw2,bw4,bw5,bw6,bw7,bc0,bc1,bc2,bc3,bc4,bc5,bc6,AV.isNilS,AV.isNoRows,wk,binIs,idxV,AV.isSl,AV.rows,ps,pv,↓reduceIte,reduceCtorEq,Nat.reduceLeDiff,Nat.reduceEqDiff,Int.reduceNeg,tfb,eq_self, hlt', hrow, hcb]
      refine ⟨by omega, k + 1, ⟨by omega, by omega⟩, rfl, ?_⟩
      rw [hcn]
    · have hcb : (p.getD k default != -1) = true := by simpa using c
      have hcn : cntN p (k + 1) = cntN p k + 1 := by rw [cntN, if_neg c]
      simp (maxSteps := 4000000) +contextual (disch := first | exact lit_lt rfl | omega | exact qdb_ok (by kernel_rfl) | exact okb_ok (by kernel_rfl)) only [bw1,bw2,bw4,bw5,bw6,bw7,bc0,bc1,bc2,bc3,bc4,bc5,bc6,AV.isNilS,AV.isNoRows,wk,binIs,idxV,AV.isSl,AV.rows,ps,pv,AV.cells?,AV.menc,AV.one,D.one,Value.oneCell',↓reduceIte,reduceCtorEq,Nat.reduceAdd,Nat.reduceLeDiff,Nat.reduceEqDiff,Int.reduceNeg,tfb,eq_self, hlt', hrow, hcb]
      refine ⟨by omega, k + 1, ⟨by omega, by omega⟩, rfl, ?_⟩
      rw [hcn]; rfl
  have hlt' : ¬ (k : Int) < p.length := by omega
  obtain ⟨c, hc⟩ : ∃ c, cntN p k = c := ⟨_, rfl⟩
  rw [hc] at hck
  by_cases c0 : c = 0
  · subst c0
    have hz := wa_zero (r := r) (worn := worn) (planed := planed) (least := least) (most := most)
    obtain ⟨f, hf⟩ : ∃ f, (waR r worn planed 0 least most).2 = f := ⟨_, rfl⟩
    rw [hf] at hz
    rcases hz with rfl | rfl
    · simp (maxSteps := 4000000) +contextual (disch := first | exact lit_lt rfl | omega | exact qdb_ok (by kernel_rfl) | exact okb_ok (by kernel_rfl)) only [bw1,bw2,bw3,bw4,bw5,bw6,bw7,bc0,bc1,bc2,bc3,bc4,bc5,bc6,binIs,extV,extS,AV.dl,AV.cells?,AV.menc,AV.one,D.one,Value.oneCell',↓reduceIte,reduceCtorEq,Nat.reduceAdd,Nat.reduceLeDiff,Nat.reduceLT,Nat.reduceBEq,Nat.reduceEqDiff,Int.reduceNeg,Int.reduceEq,tfb,x3_8,eq_self, hlt', hc, hr1000, hf]
      refine call4x (C := Ct3) (i := mk _) (j := mk _) rfl rfl ?_
      simp (maxSteps := 4000000) +contextual (disch := first | exact lit_lt rfl | omega | exact qdb_ok (by kernel_rfl) | exact okb_ok (by kernel_rfl)) only [bw2,bw3,bw5,bw6,bc0,bc2,bc3,bc4,bc5,AV.outs,AV.outF,packD,↓reduceIte]
    · simp (maxSteps := 4000000) +contextual (disch := first | exact lit_lt rfl | omega | exact qdb_ok (by kernel_rfl) | exact okb_ok (by kernel_rfl)) only [bw1,bw2,bw3,bw4,bw5,bw6,bw7,bc0,bc1,bc2,bc3,bc4,bc5,bc6,binIs,extV,extS,AV.dl,AV.cells?,AV.menc,AV.one,D.one,Value.oneCell',↓reduceIte,reduceCtorEq,Nat.reduceAdd,Nat.reduceLeDiff,Nat.reduceLT,Nat.reduceBEq,Nat.reduceEqDiff,Int.reduceNeg,Int.reduceEq,tfb,x3_8,eq_self, hlt', hc, hr1000, hf]
      refine call4x (C := Ct3) (i := mk _) (j := mk _) rfl rfl ?_
      simp (maxSteps := 4000000) +contextual (disch := first | exact lit_lt rfl | omega | exact qdb_ok (by kernel_rfl) | exact okb_ok (by kernel_rfl)) only [bw2,bw3,bw5,bw6,bc0,bc2,bc3,bc4,bc5,AV.outs,AV.outF,packD,↓reduceIte]
  have hc1 : 1 ≤ c := by omega
  have hc14 : c ≤ 14 := by omega
  have hcb : ((c : Int) == 0) = false := by rw [beq_eq_false_iff_ne]; omega
  by_cases f0 : (waR r worn planed (c : Int) least most).2 = 0
  case neg =>
    have hw0 := wa_err f0
    have f0' : ((waR r worn planed (c : Int) least most).2 != 0) = true := by simpa using f0
    simp (maxSteps := 4000000) +contextual (disch := first | exact lit_lt rfl | omega | exact qdb_ok (by kernel_rfl) | exact okb_ok (by kernel_rfl)) only [bw1,bw2,bw3,bw5,bw6,bw7,bc0,bc1,bc2,bc3,bc4,bc5,bc6,binIs,ps,pv,extV,extS,AV.dl,AV.cells?,AV.menc,AV.one,D.one,Value.oneCell',stcV,stcS,leafOk,eqDs,eqD,↓reduceIte,reduceCtorEq,Nat.reduceAdd,Nat.reduceLeDiff,Nat.reduceLT,Nat.reduceBEq,Nat.reduceEqDiff,Int.reduceNeg,tfb,x3_8,eq_self, hlt', hc, hcb, hr1000, hw0, f0']
    refine call4x (C := Ct3) (i := mk _) (j := mk _) rfl rfl ?_
    simp (maxSteps := 4000000) +contextual (disch := first | exact lit_lt rfl | omega | exact qdb_ok (by kernel_rfl) | exact okb_ok (by kernel_rfl)) only [bw2,bw3,bw5,bw6,bc0,bc2,bc3,bc4,bc5,AV.outs,AV.outF,packD,↓reduceIte]
  obtain ⟨w, hw⟩ : ∃ w, waR r worn planed (c : Int) least most = (w, 0) := ⟨_, Prod.ext rfl f0⟩
  obtain ⟨h1, h2, ⟨h3, h4, h5⟩, h6, h7, h8, h9⟩ := wa_law hc1 hc14 hw
  have hk1 := h2 w.lo (by omega)
  have hk2 := h2 w.hi (by omega)
  have h3' : ¬ w.lo < 0 := by omega
  have h4' : ¬ w.hi < w.lo := by omega
  have h5' : ¬ 20000 < w.hi := by omega
  by_cases d1 : 0 < w.lo
  · have hk3 := h2 (w.lo - 1) (by omega)
    have h8 := h8 d1
    by_cases d2 : w.hi < 20000
    · have hk4 := h2 (w.hi + 1) (by omega)
      have h9 := h9 d2
      simp (maxSteps := 4000000) +contextual (disch := first | exact lit_lt rfl | omega | exact qdb_ok (by kernel_rfl) | exact okb_ok (by kernel_rfl)) only [bw1,bw2,bw3,bw5,bw6,bw7,bc0,bc1,bc2,bc3,bc4,bc5,bc6,binIs,addF,AV.isPtr,extV,extS,AV.outs,AV.outF,AV.dl,AV.cells?,AV.menc,AV.one,D.one,Value.oneCell',↓reduceIte,reduceCtorEq,Nat.reduceAdd,Nat.reduceLeDiff,Nat.reduceLT,Nat.reduceBEq,Nat.reduceEqDiff,Int.reduceNeg,tfb,D.flat,x3_8,x3_9,x3_10,eq10,eq_self, hlt', hc, hcb, hr1000, hw, h1, h3', h4', h5', hk1, hk2, h6, h7, d1, d2, hk3, hk4, h8, h9]
      refine call4x (C := Ct3) (i := mk _) (j := mk _) rfl rfl ?_
      simp (maxSteps := 4000000) +contextual (disch := first | exact lit_lt rfl | omega | exact qdb_ok (by kernel_rfl) | exact okb_ok (by kernel_rfl)) only [bw2,bw3,bw5,bw6,bc2,bc3,bc4,bc5,AV.outs,AV.outF,packD,↓reduceIte]
    · simp (maxSteps := 4000000) +contextual (disch := first | exact lit_lt rfl | omega | exact qdb_ok (by kernel_rfl) | exact okb_ok (by kernel_rfl)) only [bw1,bw2,bw3,bw5,bw6,bw7,bc0,bc1,bc2,bc3,bc4,bc5,bc6,binIs,addF,AV.isPtr,extV,extS,AV.outs,AV.outF,AV.dl,AV.cells?,AV.menc,AV.one,D.one,Value.oneCell',↓reduceIte,reduceCtorEq,Nat.reduceAdd,Nat.reduceLeDiff,Nat.reduceLT,Nat.reduceBEq,Nat.reduceEqDiff,Int.reduceNeg,tfb,D.flat,x3_8,x3_9,x3_10,eq10,eq_self, hlt', hc, hcb, hr1000, hw, h1, h3', h4', h5', hk1, hk2, h6, h7, d1, d2, hk3, h8]
      refine call4x (C := Ct3) (i := mk _) (j := mk _) rfl rfl ?_
      simp (maxSteps := 4000000) +contextual (disch := first | exact lit_lt rfl | omega | exact qdb_ok (by kernel_rfl) | exact okb_ok (by kernel_rfl)) only [bw2,bw3,bw5,bw6,bc2,bc3,bc4,bc5,AV.outs,AV.outF,packD,↓reduceIte]
  · by_cases d2 : w.hi < 20000
    · have hk4 := h2 (w.hi + 1) (by omega)
      have h9 := h9 d2
      simp (maxSteps := 4000000) +contextual (disch := first | exact lit_lt rfl | omega | exact qdb_ok (by kernel_rfl) | exact okb_ok (by kernel_rfl)) only [bw1,bw2,bw3,bw5,bw6,bw7,bc0,bc1,bc2,bc3,bc4,bc5,bc6,binIs,addF,AV.isPtr,extV,extS,AV.outs,AV.outF,AV.dl,AV.cells?,AV.menc,AV.one,D.one,Value.oneCell',↓reduceIte,reduceCtorEq,Nat.reduceAdd,Nat.reduceLeDiff,Nat.reduceLT,Nat.reduceBEq,Nat.reduceEqDiff,Int.reduceNeg,tfb,D.flat,x3_8,x3_9,x3_10,eq10,eq_self, hlt', hc, hcb, hr1000, hw, h1, h3', h4', h5', hk1, hk2, h6, h7, d1, d2, hk4, h9]
      refine call4x (C := Ct3) (i := mk _) (j := mk _) rfl rfl ?_
      simp (maxSteps := 4000000) +contextual (disch := first | exact lit_lt rfl | omega | exact qdb_ok (by kernel_rfl) | exact okb_ok (by kernel_rfl)) only [bw2,bw3,bw5,bw6,bc2,bc3,bc4,bc5,AV.outs,AV.outF,packD,↓reduceIte]
    · simp (maxSteps := 4000000) +contextual (disch := first | exact lit_lt rfl | omega | exact qdb_ok (by kernel_rfl) | exact okb_ok (by kernel_rfl)) only [bw1,bw2,bw3,bw5,bw6,bw7,bc0,bc1,bc2,bc3,bc4,bc5,bc6,binIs,addF,AV.isPtr,extV,extS,AV.outs,AV.outF,AV.dl,AV.cells?,AV.menc,AV.one,D.one,Value.oneCell',↓reduceIte,reduceCtorEq,Nat.reduceAdd,Nat.reduceLeDiff,Nat.reduceLT,Nat.reduceBEq,Nat.reduceEqDiff,Int.reduceNeg,tfb,D.flat,x3_8,x3_9,x3_10,eq10,eq_self, hlt', hc, hcb, hr1000, hw, h1, h3', h4', h5', hk1, hk2, h6, h7, d1, d2]
      refine call4x (C := Ct3) (i := mk _) (j := mk _) rfl rfl ?_
      simp (maxSteps := 4000000) +contextual (disch := first | exact lit_lt rfl | omega | exact qdb_ok (by kernel_rfl) | exact okb_ok (by kernel_rfl)) only [bw2,bw3,bw5,bw6,bc2,bc3,bc4,bc5,AV.outs,AV.outF,packD,↓reduceIte]
end Go.Proofs.Ytofbbkacihnjdaa.Ic
