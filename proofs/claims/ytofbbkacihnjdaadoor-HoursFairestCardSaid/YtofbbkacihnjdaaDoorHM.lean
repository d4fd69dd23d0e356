/- A part of the proof that the last text ends: what functions of the program do, told by plain data. -/
import Derived.Test.YtofbbkacihnjdaaDoorHL
set_option linter.unusedVariables false
set_option linter.unusedSimpArgs false
namespace Go.Proofs.YtofbbkacihnjdaaDoor
open Go Go.E Go.Maps
set_option maxRecDepth 100000
set_option maxHeartbeats 16000000
def hqN (t : Tt) (p : List Int) (k : Nat) : List Int := (List.range k).map fun g : Nat => (cnG p p.length (g : Int) : Int) + (t.groups.getD g default).cred
theorem hqN_succ {t : Tt} {p : List Int} {k : Nat} : hqN t p (k + 1) = hqN t p k ++ [(cnG p p.length (k : Int) : Int) + (t.groups.getD k default).cred] := by
  unfold hqN; rw [List.range_succ, List.map_append]; rfl
theorem hqN_len {t : Tt} {p : List Int} {k : Nat} : (hqN t p k).length = k := by simp [hqN]
theorem hqN_all {t : Tt} {p : List Int} : hqN t p t.groups.length = hasL t p := by
  unfold hqN hasL hasN
  apply List.map_congr_left
  intro g hg
  rw [if_pos (List.mem_range.1 hg)]
theorem ck_no {t : Tt} {p : List Int} (h : ¬ (ckR t p).2.2 = 0) : (ckR t p).1 = [] := by
  unfold ckR at h ⊢
  by_cases c1 : ttOk t = true
  · rw [if_pos c1] at h ⊢
    by_cases c2 : plOk t p = true
    · rw [if_pos c2] at h ⊢
      rcases ckN_spec (t := t) (p := p) p.length 0 (by omega) with ⟨h1, _⟩ | ⟨n, _, _, h3, _⟩
      · exact absurd h1 h
      · rw [h3]
    · rw [if_neg c2]
  · rw [if_neg c1]
def O10 : Nat → Sch := fun id => if id = 9 then .one 0 (.one 1 (.one 2 (.one 3 (.one 4 (.one 5 (.one 6 (.one 7 (.one 8 (.one 9 (.done)))))))))) else .done
theorem O10_9 : O10 9 = .one 0 (.one 1 (.one 2 (.one 3 (.one 4 (.one 5 (.one 6 (.one 7 (.one 8 (.one 9 (.done)))))))))) := rfl
theorem ho10 : Tryd.f10.body.map (okO O10) = some true := by kernel_rfl
def Cf10 : Nat → List AV → (AV → List AV → Sto → Prop) → Kt → List AV → Sto → Prop := fun f args K Q e s => match f with
  | 31 => ent31 args K e s
  | 32 => ent32 (AV.outs s args) K (mk _) e s
  | _ => False
def Ct10 : CT := { f := Cf10, y := noYld, z := fun d => false }
theorem ctz10 {d : Nat} : CT.z Ct10 d = (false) := id rfl
theorem Ct10_ok : Ct10.ok Tryd.prog := ok_of_f (fun f args K Q e s h => by
  have h : Cf10 f args K Q e s := h
  unfold Cf10 at h; split at h
  · exact ent31_ok h
  · exact ent32_ok h
  · exact h.elim) (fun _ _ _ _ _ _ _ _ _ h => h)
theorem x10_31 {t : Tt} {KK : AV → List AV → Sto → Prop} {QQ : Kt} {ii : At KK} {jj : At QQ} {ee : List AV} {ss : Sto} : xC Ct10 31 [.d (.agg t.c)] KK QQ ii jj ee ss = ((t.hours.length ≤ 1000 ∧ t.groups.length ≤ 1000) ∧ KK (.d (.b (ttOk t))) ee ss) := eq31
theorem x10_32 {args : List AV} {KK : AV → List AV → Sto → Prop} {QQ : Kt} {ii : At KK} {jj : At QQ} {ee : List AV} {ss : Sto} : xC Ct10 32 args KK QQ ii jj ee ss = ent32 (AV.outs ss args) KK (mk _) ee ss := id rfl
theorem c10 : callable Tryd.prog 10 = true := by kernel_rfl
theorem pf10 (t : Tt) (p : List Int) (h : (t.hours.length ≤ 1000 ∧ t.groups.length ≤ 1000) ∧ p.length ≤ 1000) : PFn Tryd.prog 10 [.agg t.c, .sl 1 (p.map ic)] (fun zz => zz = .ret (.tup [.sl 1 ((ckR t p).1.map ic), .i (ckR t p).2.1, .i (ckR t p).2.2])) := by
  obtain ⟨hsz, hp⟩ := h
  by_cases c1 : ttOk t = true
  case neg =>
    have hW : ckR t p = ([], 0, 1) := by unfold ckR; rw [if_neg c1]
    rw [hW]
    refine PFn_nil (PFn_start (O := O10) Ct10_ok hmix ho10 Tryd.func10 c10 rfl Tryd.ntmps10 Tryd.results10 ?_)
    simp (maxSteps := 4000000) +contextual (disch := first | omega | exact qdb_ok (by kernel_rfl) | exact okb_ok (by kernel_rfl)) only [bw1,bw2,bw3,bw5,bw6,bc1,bc2,bc3,bc4,bc5,bc6,packD,AV.dl,AV.cells?,↓reduceIte,reduceCtorEq,Nat.reduceAdd,Nat.reduceSub,List.reduceReplicate,Nat.reduceLeDiff,Nat.reduceLT,tfb,n_retr,AV.outN,D.flat,x10_31,hsz, c1]
    try rfl
  have hbig := tt_hours c1
  by_cases c2 : (ckR t p).2.2 = 0
  case neg =>
    have c2b : ((ckR t p).2.2 != 0) = true := by simpa using c2
    have hn := ck_no c2
    rw [hn]
    refine PFn_nil (PFn_start (O := O10) Ct10_ok hmix ho10 Tryd.func10 c10 rfl Tryd.ntmps10 Tryd.results10 ?_)
    simp (maxSteps := 4000000) +contextual (disch := first | omega | exact qdb_ok (by kernel_rfl) | exact okb_ok (by kernel_rfl)) only [bw1,bw2,bw3,bw5,bw6,bc1,bc2,bc3,bc4,bc5,bc6,binIs,ps,pv,extV,extS,AV.outs,AV.outF,packD,AV.dl,AV.cells?,AV.menc,AV.one,D.one,Value.oneCell',↓reduceIte,reduceCtorEq,Nat.reduceAdd,Nat.reduceSub,List.reduceReplicate,Nat.reduceLeDiff,Nat.reduceLT,Nat.reduceBEq,Nat.reduceEqDiff,tfb,n_retr,AV.outN,D.flat,D.flats,x10_31,x10_32,eq32,hsz, c1, hp, c2b]
    try (and_intros <;> first | omega | rfl)
  have c2b : ((ckR t p).2.2 != 0) = false := by simpa using c2
  obtain ⟨v1, v2, v3⟩ := ck_val c1 c2
  have hcc : chC t p = cnP p p.length := by unfold chC; rw [if_pos c2]
  rw [v1]
  refine PFn_nil (PFn_start (O := O10) Ct10_ok hmix ho10 Tryd.func10 c10 rfl Tryd.ntmps10 Tryd.results10 ?_)
  simp (maxSteps := 4000000) +contextual (disch := first | omega | exact qdb_ok (by kernel_rfl) | exact okb_ok (by kernel_rfl)) only [bw1,bw2,bw4,bw5,bw6,bc1,bc2,bc3,bc4,bc5,bc6,binIs,addF,AV.isPtr,AV.isSlice,AV.rows,ps,pv,extV,extS,AV.outs,AV.outF,AV.dl,AV.cells?,AV.menc,AV.one,D.one,Value.oneCell',↓reduceIte,reduceCtorEq,Nat.reduceAdd,Nat.reduceSub,List.reduceReplicate,Nat.reduceLeDiff,Nat.reduceLT,Nat.reduceBEq,Nat.reduceEqDiff,tfb,D.flat,D.flats,x10_31,x10_32,eq32,hsz, c1, hp, c2b, hcc]
  refine seed (m1 := mk _) (m2 := mk _) 4 43 3 1 (by decide) rfl rfl (by simp [Sto.mens, AV.mens, AV.men]) rfl ?_
  refine loop_xu (O := O10) (tb := 0) Ct10_ok hmix (by kernel_rfl) (σ := Nat) (fun k => [(4, .own 43 3 1 ((hqN t p k).map ic)), (29, .i k), (8, .any), (9, .any)]) (fun _ => []) (fun k => k ≤ t.groups.length) (fun k => t.groups.length - k) 0 (Nat.zero_le _) ?_ ?_
  · have hz0 : (hqN t p 0).map ic = [] := rfl
    simp (maxSteps := 4000000) +contextual (disch := first | omega | exact qdb_ok (by kernel_rfl) | exact okb_ok (by kernel_rfl)) only [bw4,bw5,bw6,bc0,bc3,bc5,bc6,AV.isNilS,AV.isNoRows,wk,↓reduceIte,reduceCtorEq,Nat.reduceEqDiff,eq_self, hz0]
    try rfl
  rintro k hk
  have hql := hqN_len (t := t) (p := p) (k := k)
  by_cases hlt : k < t.groups.length
  · have hlt' : (k : Int) < t.groups.length := by omega
    have hk0 : (0 : Int) ≤ k := by omega
    have hrg : (t.groups.map Gr.c).getD k [] = Gr.c (t.groups.getD k default) := Go.E.row_at hlt
    have hgr := tt_group c1 hlt
    have hle := cnG_le (p := p) (k := p.length) (g := (k : Int))
    have hat : [AV.d (D.i (cnP p p.length).a), AV.d (D.i (cnP p p.length).b), AV.d (D.i (cnP p p.length).c), AV.d (D.i (cnP p p.length).d), AV.d (D.i (cnP p p.length).e)].getD k AV.any = AV.i (cnG p p.length (k : Int) : Int) := by
      rw [← cnP_at (p := p) (k := p.length) (g := k) (by omega)]
      rcases (show k = 0 ∨ k = 1 ∨ k = 2 ∨ k = 3 ∨ k = 4 by omega) with rfl | rfl | rfl | rfl | rfl <;> rfl
    have hk5 : k ≤ 4 := by omega
    have hk6 : (k : Int) < 5 := by omega
    have hmul : k * 1 = k := Nat.mul_one k
    have hs : (hqN t p k).map ic ++ [[D.v (Value.int .i64 ((cnG p p.length (k : Int) : Int) + (t.groups.getD k default).cred))]] = (hqN t p (k + 1)).map ic := by
      rw [hqN_succ, List.map_append]; rfl
    simp (maxSteps := 4000000) +contextual (disch := first | omega | exact qdb_ok (by kernel_rfl) | exact okb_ok (by kernel_rfl)) only [bw1,bw2,bw3,bw4,bw5,bw6,bw7,bc0,bc1,bc2,bc3,bc4,bc5,bc6,AV.isNilS,AV.isNoRows,wk,binIs,addF,AV.isPtr,idxV,AV.isSl,AV.rows,ps,pv,AV.cells?,AV.menc,AV.one,D.one,Value.oneCell',tagOf,AV.isApp,AV.dcells,D.cells?,↓reduceIte,reduceCtorEq,Nat.reduceAdd,Nat.reduceMul,List.reduceReplicate,Nat.reduceLeDiff,Nat.reduceLT,Nat.reduceBEq,Nat.reduceEqDiff,tfb,qd_Rn,ctz10,O10_9,eq_self, hlt', hk0, hrg, hat, hk5, hmul, hs, hql]
    repeat (refine And.intro (by omega) ?_)
    exact ⟨k + 1, ⟨by omega, by omega⟩, rfl, rfl⟩
  obtain rfl : k = t.groups.length := by omega
  have hfl := ics_flat (hasL t p)
  simp (maxSteps := 4000000) +contextual (disch := first | omega | exact qdb_ok (by kernel_rfl) | exact okb_ok (by kernel_rfl)) only [bw1,bw2,bw3,bw5,bw6,bw7,bc0,bc1,bc2,bc3,bc4,bc5,bc6,bc7,binIs,packD,↓reduceIte,reduceCtorEq,tfb,n_retr,AV.outN,D.flat,eq_self, Int.lt_irrefl, hqN_all, hfl]
  try (and_intros <;> first | omega | rfl)
end Go.Proofs.YtofbbkacihnjdaaDoor
