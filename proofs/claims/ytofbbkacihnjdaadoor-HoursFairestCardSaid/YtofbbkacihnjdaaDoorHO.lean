/- A part of the proof that the last text ends: what functions of the program do, told by plain data. -/
import Derived.Test.YtofbbkacihnjdaaDoorHN
set_option linter.unusedVariables false
set_option linter.unusedSimpArgs false
namespace Go.Proofs.YtofbbkacihnjdaaDoor
open Go Go.E Go.Maps
set_option maxRecDepth 100000
set_option maxHeartbeats 16000000
theorem wk_self : ∀ c : List AV, wk c c
  | [] => trivial
  | _ :: c => ⟨.inr (.inl rfl), wk_self c⟩
theorem hcL_has {t : Tt} {p : List Int} (h5 : t.groups.length ≤ 5) : hcL t (cnP p p.length) = hasL t p := by
  rw [← hqN_all]
  unfold hcL hcN hqN
  apply List.map_congr_left
  intro g hg
  rw [cnP_at (by have := List.mem_range.1 hg; omega)]
theorem leM_all {t : Tt} (ht : ttOk t = true) {p : List Int} (hg : goP t p) : ∀ k, k ≤ p.length → leM t p k
  | 0, _ => leM_zero ht
  | k + 1, hk => leM_next (leM_all ht hg k (by omega)) (by omega) (hg.2 k (by omega))
theorem cn_good {t : Tt} (ht : ttOk t = true) {p : List Int} (hg : goP t p) : CnB (cnP p p.length) := cnP_b ht (leM_all ht hg _ (Nat.le_refl _)) fun _ h => cnG_out (pl_fo hg.1).1 h
def O12 : Nat → Sch := fun id => .done
theorem ho12 : Tryd.f12.body.map (okO O12) = some true := by kernel_rfl
def Cf12 : Nat → List AV → (AV → List AV → Sto → Prop) → Kt → List AV → Sto → Prop := fun f args K Q e s => match f with
  | 31 => ent31 args K e s
  | 32 => ent32 (AV.outs s args) K (mk _) e s
  | 35 => ent35 (AV.outs s args) K (mk _) e s
  | _ => False
def Ct12 : CT := { f := Cf12, y := noYld, z := fun d => false }
theorem ctz12 {d : Nat} : CT.z Ct12 d = (false) := id rfl
theorem Ct12_ok : Ct12.ok Tryd.prog := ok_of_f (fun f args K Q e s h => by
  have h : Cf12 f args K Q e s := h
  unfold Cf12 at h; split at h
  · exact ent31_ok h
  · exact ent32_ok h
  · exact ent35_ok h
  · exact h.elim) (fun _ _ _ _ _ _ _ _ _ h => h)
theorem x12_31 {t : Tt} {KK : AV → List AV → Sto → Prop} {QQ : Kt} {ii : At KK} {jj : At QQ} {ee : List AV} {ss : Sto} : xC Ct12 31 [.d (.agg t.c)] KK QQ ii jj ee ss = ((t.hours.length ≤ 1000 ∧ t.groups.length ≤ 1000) ∧ KK (.d (.b (ttOk t))) ee ss) := eq31
theorem x12_32 {args : List AV} {KK : AV → List AV → Sto → Prop} {QQ : Kt} {ii : At KK} {jj : At QQ} {ee : List AV} {ss : Sto} : xC Ct12 32 args KK QQ ii jj ee ss = ent32 (AV.outs ss args) KK (mk _) ee ss := id rfl
theorem x12_35 {args : List AV} {KK : AV → List AV → Sto → Prop} {QQ : Kt} {ii : At KK} {jj : At QQ} {ee : List AV} {ss : Sto} : xC Ct12 35 args KK QQ ii jj ee ss = ent35 (AV.outs ss args) KK (mk _) ee ss := id rfl
theorem c12 : callable Tryd.prog 12 = true := by kernel_rfl
theorem pf12 (t : Tt) (a b : List Int) (h : (t.hours.length ≤ 1000 ∧ t.groups.length ≤ 1000) ∧ a.length ≤ 1000 ∧ b.length ≤ 1000) : PF Tryd.prog 12 [.agg t.c, .sl 1 (a.map ic), .sl 1 (b.map ic)] (fun zz => zz = .ret (.tup [.i (cpR t a b).1, .i (cpR t a b).2])) := by
  obtain ⟨hsz, ha, hb⟩ := h
  by_cases c0 : ttOk t = true
  case neg =>
    have hW : ckR t a = ([], 0, 1) := by unfold ckR; rw [if_neg c0]
    have hc : cpR t a b = (0, 1) := by unfold cpR; rw [hW]; rfl
    rw [hc]
    refine PF_nil (PF_start (O := O12) Ct12_ok hmix ho12 Tryd.func12 c12 rfl Tryd.ntmps12 Tryd.results12 ?_)
    simp (maxSteps := 4000000) +contextual (disch := first | omega | exact qdb_ok (by kernel_rfl) | exact okb_ok (by kernel_rfl)) only [bw1,bw2,bw3,bw5,bw6,bc1,bc2,bc3,bc4,bc5,bc6,AV.outs,AV.outF,packD,AV.dl,AV.cells?,↓reduceIte,reduceCtorEq,Nat.reduceAdd,Nat.reduceSub,List.reduceReplicate,Nat.reduceLeDiff,Nat.reduceLT,tfb,x12_31,hsz, c0]
    try rfl
  have hbig := tt_hours c0
  refine PF_nil (PF_start (O := O12) Ct12_ok hmix ho12 Tryd.func12 c12 rfl Tryd.ntmps12 Tryd.results12 ?_)
  simp (maxSteps := 4000000) +contextual (disch := first | omega | exact qdb_ok (by kernel_rfl) | exact okb_ok (by kernel_rfl)) only [bw1,bw2,bw4,bw5,bw6,bc1,bc2,bc3,bc4,bc5,bc6,AV.isSlice,AV.rows,ps,pv,AV.dl,AV.cells?,D.one,Value.oneCell',AV.dcells,D.cells?,↓reduceIte,reduceCtorEq,Nat.reduceAdd,Nat.reduceSub,Nat.reduceMul,List.reduceReplicate,Nat.reduceLeDiff,Nat.reduceLT,Nat.reduceBEq,Nat.reduceEqDiff,tfb,ctz12,x12_31,hsz, c0]
  refine loop_xu (O := O12) (tb := 0) Ct12_ok hmix (by kernel_rfl) (σ := Nat) (fun k => [(25, .i k), (10, .any), (11, .any), (12, .any), (13, .any), (14, .any)]) (fun k => [(10, (if 0 < k then [.i (chC t a).a, .i (chC t a).b, .i (chC t a).c, .i (chC t a).d, .i (chC t a).e] else [.i 0, .i 0, .i 0, .i 0, .i 0]) ++ (if 1 < k then [.i (chC t b).a, .i (chC t b).b, .i (chC t b).c, .i (chC t b).d, .i (chC t b).e] else [.i 0, .i 0, .i 0, .i 0, .i 0]))]) (fun k => k ≤ 2 ∧ (0 < k → (ckR t a).2.2 = 0) ∧ (1 < k → (ckR t b).2.2 = 0)) (fun k => 2 - k) 0 ⟨by omega, fun h => absurd h (by omega), fun h => absurd h (by omega)⟩ ?_ ?_
  · simp (maxSteps := 4000000) +contextual (disch := first | omega | exact qdb_ok (by kernel_rfl) | exact okb_ok (by kernel_rfl)) only [bw4,bw5,bw6,bc0,bc3,bc4,bc5,bc6,AV.isNilS,AV.isNoRows,wk,↓reduceIte,reduceCtorEq,Nat.reduceEqDiff,eq_self, Nat.lt_irrefl, Nat.not_lt_zero]
  rintro k ⟨hk, h1, h2⟩
  rcases (show k = 0 ∨ k = 1 ∨ k = 2 by omega) with rfl | rfl | rfl
  · have hz : ((0 : Nat) : Int) = 0 := rfl
    by_cases e1 : (ckR t a).2.2 = 0
    · have e1b : ((ckR t a).2.2 != 0) = false := by simpa using e1
      simp (maxSteps := 4000000) +contextual (disch := first | omega | exact qdb_ok (by kernel_rfl) | exact okb_ok (by kernel_rfl)) only [bw1,bw2,bw4,bw5,bw6,bw7,bc0,bc1,bc2,bc3,bc4,bc5,bc6,AV.isNilS,AV.isNoRows,wk,binIs,addF,AV.isPtr,idxV,AV.isSl,AV.rows,ps,pv,extV,extS,AV.outs,AV.outF,AV.dl,AV.cells?,AV.menc,AV.one,D.one,Value.oneCell',↓reduceIte,reduceCtorEq,Nat.reduceAdd,Nat.reduceSub,Nat.reduceLeDiff,Nat.reduceLT,Nat.reduceBEq,Nat.reduceEqDiff,Int.reduceLE,Int.reduceLT,tfb,D.flat,D.flats,x12_32,eq32,eq_self, Nat.lt_irrefl, Nat.not_lt_zero, Nat.reduceLT, Int.toNat_zero, Int.reduceAdd, Nat.zero_mul, Int.reduceLT, hz, c0, ha, e1b]
      exact ⟨1, ⟨⟨by omega, fun _ => e1, fun h => absurd h (by omega)⟩, by omega⟩, rfl, by rw [if_pos (by omega), if_neg (by omega)]; exact wk_self _⟩
    · have e1b : ((ckR t a).2.2 != 0) = true := by simpa using e1
      have hc : cpR t a b = (0, (ckR t a).2.2) := by unfold cpR; rw [if_neg e1]
      simp (maxSteps := 4000000) +contextual (disch := first | omega | exact qdb_ok (by kernel_rfl) | exact okb_ok (by kernel_rfl)) only [bw1,bw2,bw3,bw4,bw5,bw6,bw7,bc0,bc1,bc2,bc3,bc4,bc5,bc6,binIs,idxV,AV.isSl,AV.rows,ps,pv,extV,extS,AV.outs,AV.outF,packD,AV.cells?,AV.menc,AV.one,D.one,Value.oneCell',↓reduceIte,reduceCtorEq,Nat.reduceAdd,Nat.reduceSub,Nat.reduceLeDiff,Nat.reduceLT,Nat.reduceBEq,Nat.reduceEqDiff,Int.reduceLE,Int.reduceLT,tfb,D.flat,D.flats,x12_32,eq32,eq_self, Nat.lt_irrefl, Nat.not_lt_zero, Nat.reduceLT, Int.toNat_zero, Int.reduceAdd, Int.reduceLT, hz, c0, ha, e1b, hc]
      try (and_intros <;> first | omega | rfl)
  · have hz : ((1 : Nat) : Int) = 1 := rfl
    by_cases e1 : (ckR t b).2.2 = 0
    · have e1b : ((ckR t b).2.2 != 0) = false := by simpa using e1
      simp (maxSteps := 4000000) +contextual (disch := first | omega | exact qdb_ok (by kernel_rfl) | exact okb_ok (by kernel_rfl)) only [bw1,bw2,bw4,bw5,bw6,bw7,bc0,bc1,bc2,bc3,bc4,bc5,bc6,AV.isNilS,AV.isNoRows,wk,binIs,addF,AV.isPtr,idxV,AV.isSl,AV.rows,ps,pv,extV,extS,AV.outs,AV.outF,AV.dl,AV.cells?,AV.menc,AV.one,D.one,Value.oneCell',↓reduceIte,reduceCtorEq,Nat.reduceAdd,Nat.reduceSub,Nat.reduceMul,Nat.reduceLeDiff,Nat.reduceLT,Nat.reduceBEq,Nat.reduceEqDiff,Int.reduceLE,Int.reduceLT,tfb,D.flat,D.flats,x12_32,eq32,eq_self, Nat.lt_irrefl, Nat.not_lt_zero, Nat.reduceLT, Int.reduceToNat, Int.reduceAdd, Int.reduceLT, hz, c0, hb, e1b]
      exact ⟨2, ⟨⟨by omega, fun _ => h1 (by omega), fun _ => e1⟩, by omega⟩, rfl, by rw [if_pos (by omega), if_pos (by omega)]; exact wk_self _⟩
    · have e1b : ((ckR t b).2.2 != 0) = true := by simpa using e1
      have hc : cpR t a b = (0, (ckR t b).2.2) := by unfold cpR; rw [if_pos (h1 (by omega)), if_neg e1]
      simp (maxSteps := 4000000) +contextual (disch := first | omega | exact qdb_ok (by kernel_rfl) | exact okb_ok (by kernel_rfl)) only [bw1,bw2,bw3,bw4,bw5,bw6,bw7,bc0,bc1,bc2,bc3,bc4,bc5,bc6,binIs,idxV,AV.isSl,AV.rows,ps,pv,extV,extS,AV.outs,AV.outF,packD,AV.cells?,AV.menc,AV.one,D.one,Value.oneCell',↓reduceIte,reduceCtorEq,Nat.reduceAdd,Nat.reduceSub,Nat.reduceLeDiff,Nat.reduceLT,Nat.reduceBEq,Nat.reduceEqDiff,Int.reduceLE,Int.reduceLT,tfb,D.flat,D.flats,x12_32,eq32,eq_self, Nat.lt_irrefl, Nat.not_lt_zero, Nat.reduceLT, Int.reduceToNat, Int.reduceAdd, Int.reduceLT, hz, c0, hb, e1b, hc]
      try (and_intros <;> first | omega | rfl)
  · have hz : ((2 : Nat) : Int) = 2 := rfl
    have e1 := h1 (by omega)
    have e2 := h2 (by omega)
    have ga := (ck_ok c0).1 e1
    have gb := (ck_ok c0).1 e2
    have ca : chC t a = cnP a a.length := by unfold chC; rw [if_pos e1]
    have cb : chC t b = cnP b b.length := by unfold chC; rw [if_pos e2]
    have ha1 := cn_good c0 ga
    have hb1 := cn_good c0 gb
    have hv : cmpC t (cnP a a.length) (cnP b b.length) = fairI t a b := by
      unfold cmpC fairI
      rw [hcL_has (by omega), hcL_has (by omega)]
    have hc : cpR t a b = (fairI t a b, 0) := by unfold cpR; rw [if_pos e1, if_pos e2]
    simp (maxSteps := 4000000) +contextual (disch := first | omega | exact qdb_ok (by kernel_rfl) | exact okb_ok (by kernel_rfl)) only [bw1,bw2,bw3,bw5,bw6,bw7,bc0,bc1,bc2,bc3,bc4,bc5,bc6,binIs,addF,AV.isPtr,ps,pv,AV.outs,AV.outF,packD,AV.dl,AV.one,D.one,Value.oneCell',↓reduceIte,reduceCtorEq,Nat.reduceAdd,Nat.reduceSub,Nat.reduceMul,Nat.reduceLeDiff,Nat.reduceLT,Nat.reduceEqDiff,Int.reduceLE,Int.reduceLT,tfb,D.flat,x12_35,eq35,eq_self, Nat.reduceLT, Int.toNat_zero, Int.reduceToNat, Int.reduceAdd, Nat.zero_mul, Int.reduceLT, hz, ca, cb, c0, ha1, hb1, hv, hc]
    try (and_intros <;> first | omega | rfl)
end Go.Proofs.YtofbbkacihnjdaaDoor
