/- A part of the proof that the last text ends: what functions of the program do, told by plain data. -/
import Derived.Test.YtofbbkacihnjdaaDoorHK
set_option linter.unusedVariables false
set_option linter.unusedSimpArgs false
namespace Go.Proofs.YtofbbkacihnjdaaDoor
open Go Go.E Go.Maps
set_option maxRecDepth 100000
set_option maxHeartbeats 16000000
def O53 : Nat → Sch := fun id => .done
theorem ho53 : Tryd.f53.body.map (okO O53) = some true := by kernel_rfl
def Cf53 : Nat → List AV → (AV → List AV → Sto → Prop) → Kt → List AV → Sto → Prop := fun f args K Q e s => match f with
  | 43 => ent43 args K e s
  | _ => False
def Ct53 : CT := { f := Cf53, y := noYld, z := fun d => false }
theorem Ct53_ok : Ct53.ok Tryd.prog := ok_of_f (fun f args K Q e s h => by
  have h : Cf53 f args K Q e s := h
  unfold Cf53 at h; split at h
  · exact ent43_ok h
  · exact h.elim) (fun _ _ _ _ _ _ _ _ _ h => h)
theorem x53_43 {n : Int} {lo : Int} {hi : Int} {KK : AV → List AV → Sto → Prop} {QQ : Kt} {ii : At KK} {jj : At QQ} {ee : List AV} {ss : Sto} : xC Ct53 43 [.d (.i n), .d (.i lo), .d (.i hi)] KK QQ ii jj ee ss = (KK (.d (.b (inB n lo hi))) ee ss) := eq43
theorem c53 : callable Tryd.prog 53 = true := by kernel_rfl
def O64 : Nat → Sch := fun id => .done
theorem ho64 : Tryd.f64.body.map (okO O64) = some true := by kernel_rfl
def Cf64 : Nat → List AV → (AV → List AV → Sto → Prop) → Kt → List AV → Sto → Prop := fun f args K Q e s => match f with
  | 53 => inlE Tryd.prog Ct53 O53 53000 53 args K Q e s
  | _ => False
def Ct64 : CT := { f := Cf64, y := noYld, z := fun d => false }
theorem Ct64_ok : Ct64.ok Tryd.prog := ok_of_f (fun f args K Q e s h => by
  have h : Cf64 f args K Q e s := h
  unfold Cf64 at h; split at h
  · exact inlE_ok Ct53_ok hmix ho53 h
  · exact h.elim) (fun _ _ _ _ _ _ _ _ _ h => h)
theorem z64_53 : type_of% (@xinl Tryd.prog Ct64 Ct53 O53 53000 53 _ _ _ _ rfl c53 Tryd.func53 rfl Tryd.ntmps53 Tryd.results53) := @xinl Tryd.prog Ct64 Ct53 O53 53000 53 _ _ _ _ rfl c53 Tryd.func53 rfl Tryd.ntmps53 Tryd.results53
theorem c64 : callable Tryd.prog 64 = true := by kernel_rfl
def O41 : Nat → Sch := fun id => .done
theorem ho41 : Tryd.f41.body.map (okO O41) = some true := by kernel_rfl
def Cf41 : Nat → List AV → (AV → List AV → Sto → Prop) → Kt → List AV → Sto → Prop := fun f args K Q e s => match f with
  | 64 => inlE Tryd.prog Ct64 O64 64000 64 args K Q e s
  | _ => False
def Ct41 : CT := { f := Cf41, y := noYld, z := fun d => false }
theorem Ct41_ok : Ct41.ok Tryd.prog := ok_of_f (fun f args K Q e s h => by
  have h : Cf41 f args K Q e s := h
  unfold Cf41 at h; split at h
  · exact inlE_ok Ct64_ok hmix ho64 h
  · exact h.elim) (fun _ _ _ _ _ _ _ _ _ h => h)
theorem z41_64 : type_of% (@xinl Tryd.prog Ct41 Ct64 O64 64000 64 _ _ _ _ rfl c64 Tryd.func64 rfl Tryd.ntmps64 Tryd.results64) := @xinl Tryd.prog Ct41 Ct64 O64 64000 64 _ _ _ _ rfl c64 Tryd.func64 rfl Tryd.ntmps64 Tryd.results64
theorem c41 : callable Tryd.prog 41 = true := by kernel_rfl
def O32 : Nat → Sch := fun id => .done
theorem ho32 : Tryd.f32.body.map (okO O32) = some true := by kernel_rfl
def Cf32 : Nat → List AV → (AV → List AV → Sto → Prop) → Kt → List AV → Sto → Prop := fun f args K Q e s => match f with
  | 41 => inlE Tryd.prog Ct41 O41 41000 41 args K Q e s
  | 54 => ent54 args K e s
  | 55 => ent55 (AV.outs s args) K (mk _) e s
  | 56 => ent56 args K e s
  | _ => False
def Ct32 : CT := { f := Cf32, y := noYld, z := fun d => false }
theorem Ct32_ok : Ct32.ok Tryd.prog := ok_of_f (fun f args K Q e s h => by
  have h : Cf32 f args K Q e s := h
  unfold Cf32 at h; split at h
  · exact inlE_ok Ct41_ok hmix ho41 h
  · exact ent54_ok h
  · exact ent55_ok h
  · exact ent56_ok h
  · exact h.elim) (fun _ _ _ _ _ _ _ _ _ h => h)
theorem x32_54  {KK : AV → List AV → Sto → Prop} {QQ : Kt} {ii : At KK} {jj : At QQ} {ee : List AV} {ss : Sto} : xC Ct32 54 [] KK QQ ii jj ee ss = (KK (.d (.agg bgS.v)) ee ss) := eq54
theorem x32_55 {args : List AV} {KK : AV → List AV → Sto → Prop} {QQ : Kt} {ii : At KK} {jj : At QQ} {ee : List AV} {ss : Sto} : xC Ct32 55 args KK QQ ii jj ee ss = ent55 (AV.outs ss args) KK (mk _) ee ss := id rfl
theorem x32_56 {s : Sd} {g : Int} {KK : AV → List AV → Sto → Prop} {QQ : Kt} {ii : At KK} {jj : At QQ} {ee : List AV} {ss : Sto} : xC Ct32 56 [.d (.agg s.v), .d (.i g)] KK QQ ii jj ee ss = (((-1 ≤ g ∧ g ≤ 4) ∧ (0 ≤ s.h ∧ s.h ≤ 1000) ∧ CnB s.n) ∧ KK (.d (.agg (nxS s g).v)) ee ss) := eq56
theorem z32_41 : type_of% (@xinl Tryd.prog Ct32 Ct41 O41 41000 41 _ _ _ _ rfl c41 Tryd.func41 rfl Tryd.ntmps41 Tryd.results41) := @xinl Tryd.prog Ct32 Ct41 O41 41000 41 _ _ _ _ rfl c41 Tryd.func41 rfl Tryd.ntmps41 Tryd.results41
theorem c32 : callable Tryd.prog 32 = true := by kernel_rfl
theorem pf32 (t : Tt) (p : List Int) (h : ttOk t = true ∧ p.length ≤ 1000) : PF Tryd.prog 32 [.ptr t.c 0, .sl 1 (p.map ic)] (fun zz => zz = .ret (.tup [.agg (chC t p).v, .i (ckR t p).2.1, .i (ckR t p).2.2])) := by
  obtain ⟨ht, hp⟩ := h
  have hbig := tt_hours ht
  obtain ⟨W, hW⟩ : ∃ W, W = ckR t p := ⟨_, rfl⟩
  unfold chC
  rw [← hW]
  unfold ckR at hW
  rw [if_pos ht] at hW
  by_cases c1 : (p.length : Int) = t.hours.length
  case neg =>
    have c1b : ((p.length : Int) != (t.hours.length : Int)) = true := by simpa using c1
    have hW2 : W = ([], 0, 2) := by
      rw [hW, if_neg]
      unfold plOk
      rw [decide_eq_false c1]; simp
    rw [hW2]
    refine PF_nil (PF_start (O := O32) Ct32_ok hmix ho32 Tryd.func32 c32 rfl Tryd.ntmps32 Tryd.results32 ?_)
    simp (maxSteps := 4000000) +contextual (disch := first | omega | exact qdb_ok (by kernel_rfl) | exact okb_ok (by kernel_rfl)) only [bw1,bw2,bw3,bw4,bw5,bw6,bw7,bc0,bc1,bc2,bc3,bc4,bc5,bc6,binIs,addF,AV.isPtr,AV.isSlice,AV.rows,AV.outs,AV.outF,packD,AV.dl,AV.cells?,AV.menc,AV.one,D.one,Value.oneCell',↓reduceIte,reduceCtorEq,Nat.reduceAdd,Nat.reduceSub,List.reduceReplicate,Nat.reduceLeDiff,Nat.reduceLT,Nat.reduceBEq,Nat.reduceEqDiff,Int.reduceEq,tfb,c1b]
    try rfl
  have c1b : ((p.length : Int) != (t.hours.length : Int)) = false := by simpa using c1
  refine PF_nil (PF_start (O := O32) Ct32_ok hmix ho32 Tryd.func32 c32 rfl Tryd.ntmps32 Tryd.results32 ?_)
  simp (maxSteps := 4000000) +contextual (disch := first | omega | exact qdb_ok (by kernel_rfl) | exact okb_ok (by kernel_rfl)) only [bw1,bw2,bw3,bw4,bw5,bw6,bc0,bc1,bc2,bc3,bc4,bc5,bc6,binIs,addF,AV.isPtr,AV.isSlice,AV.rows,AV.dl,AV.cells?,↓reduceIte,reduceCtorEq,Nat.reduceAdd,Nat.reduceSub,List.reduceReplicate,Nat.reduceLeDiff,Nat.reduceLT,Nat.reduceBEq,Nat.reduceEqDiff,Int.reduceNeg,tfb,z32_41,z41_64,c1b]
  refine loop_xu (O := O64) (tb := 64000) Ct64_ok hmix (by kernel_rfl) (σ := Nat) (fun k => [(8, .i k), (5, .any)]) (fun _ => []) (fun k => k ≤ p.length ∧ ∀ q, q < k → inB (p.getD q default) (-1) ((t.groups.length : Int) - 1) = true) (fun k => p.length - k) 0 ⟨Nat.zero_le _, fun q hq => by omega⟩ ?_ ?_
  · simp (maxSteps := 4000000) +contextual (disch := first | omega | exact qdb_ok (by kernel_rfl) | exact okb_ok (by kernel_rfl)) only [bw4,bw5,bw6,bc0,bc3,bc5,bc6,AV.isNilS,AV.isNoRows,wk,↓reduceIte,reduceCtorEq,Nat.reduceEqDiff,eq_self]
    try rfl
  rintro k ⟨hk, hq⟩
  by_cases hlt : k < p.length
  · have hlt' : (k : Int) < p.length := by omega
    have hk0 : (0 : Int) ≤ k := by omega
    have hrp : (p.map ic).getD k [] = ic (p.getD k default) := Go.E.row_at hlt
    by_cases d1 : inB (p.getD k default) (-1) ((t.groups.length : Int) - 1) = true
    · simp (maxSteps := 4000000) +contextual (disch := first | omega | exact qdb_ok (by kernel_rfl) | exact okb_ok (by kernel_rfl)) only [bw1,bw2,bw3,bw4,bw5,bw6,bw7,bc0,bc1,bc2,bc3,bc4,bc5,bc6,AV.isNilS,AV.isNoRows,wk,binIs,addF,AV.isPtr,idxV,AV.isSl,AV.isSlice,AV.rows,ps,pv,packA,↓reduceIte,reduceCtorEq,Nat.reduceAdd,Nat.reduceSub,List.reduceReplicate,Nat.reduceLeDiff,Nat.reduceEqDiff,Int.reduceNeg,tfb,z64_53,x53_43,eq_self, hlt', hk0, hrp, d1]
      repeat (refine And.intro (by omega) ?_)
      exact ⟨k + 1, ⟨⟨by omega, fun q hq' => by rcases Nat.lt_succ_iff_lt_or_eq.1 hq' with h' | rfl; exact hq q h'; exact d1⟩, by omega⟩, rfl⟩
    · have d1b : inB (p.getD k default) (-1) ((t.groups.length : Int) - 1) = false := by simpa using d1
      have hW2 : W = ([], 0, 2) := by rw [hW, if_neg (by rw [pl_no hlt d1b]; simp)]
      rw [hW2]
      simp (maxSteps := 4000000) +contextual (disch := first | omega | exact qdb_ok (by kernel_rfl) | exact okb_ok (by kernel_rfl)) only [bw1,bw2,bw3,bw4,bw5,bw6,bw7,bc0,bc1,bc2,bc3,bc4,bc5,bc6,binIs,addF,AV.isPtr,idxV,AV.isSl,AV.isSlice,AV.rows,ps,pv,AV.outs,AV.outF,packD,AV.dl,AV.cells?,AV.menc,AV.one,D.one,Value.oneCell',packA,↓reduceIte,reduceCtorEq,Nat.reduceAdd,Nat.reduceSub,List.reduceReplicate,Nat.reduceLeDiff,Nat.reduceEqDiff,Int.reduceNeg,Int.reduceEq,tfb,z64_53,x53_43,eq_self, hlt', hk0, hrp, d1b]
      try (and_intros <;> first | omega | rfl)
  have hkn : ¬ (k : Int) < p.length := by omega
  have c2 : plOk t p = true := by
    unfold plOk
    rw [all_get.2 (fun q hq' => hq q (by omega)), decide_eq_true c1]; rfl
  rw [if_pos c2] at hW
  have hfo := (pl_fo c2).1
  have hpl := (pl_fo c2).2
  clear hq hk
  simp (maxSteps := 4000000) +contextual (disch := first | omega | exact qdb_ok (by kernel_rfl) | exact okb_ok (by kernel_rfl)) only [bw1,bw2,bw3,bw4,bw5,bw6,bw7,bc0,bc1,bc2,bc3,bc4,bc5,bc6,binIs,AV.isSlice,AV.rows,AV.cells?,AV.menc,AV.one,D.one,Value.oneCell',packA,↓reduceIte,reduceCtorEq,Nat.reduceAdd,Nat.reduceLeDiff,Nat.reduceLT,Nat.reduceBEq,Nat.reduceEqDiff,Int.reduceNeg,Int.reduceLE,tfb,x32_54,eq_self, hkn]
  refine loop_xu (O := O32) (tb := 0) Ct32_ok hmix (by kernel_rfl) (σ := Nat) (fun k => [(31, .i k), (9, .any), (10, .any), (11, .any)]) (fun k => [(9, (sdP p k).av)]) (fun k => k ≤ p.length ∧ leM t p k ∧ ckN t p (p.length - k) k = W) (fun k => p.length - k) 0 ⟨Nat.zero_le _, leM_zero ht, hW.symm⟩ ?_ ?_
  · have hz := sdP_zero (p := p)
    simp (maxSteps := 4000000) +contextual (disch := first | omega | exact qdb_ok (by kernel_rfl) | exact okb_ok (by kernel_rfl)) only [bw4,bw5,bw6,bc0,bc3,bc5,bc6,AV.isNilS,AV.isNoRows,wk,↓reduceIte,reduceCtorEq,Nat.reduceEqDiff,Int.reduceNeg,eq_self, hz, bgS]
    try rfl
  rintro k ⟨hk, hle, hw⟩
  by_cases hlt : k < p.length
  · have hlt' : (k : Int) < p.length := by omega
    have hk0 : (0 : Int) ≤ k := by omega
    have hrp : (p.map ic).getD k [] = ic (p.getD k default) := Go.E.row_at hlt
    have hgb := hfo k hlt
    have hes := erS_R ht (fun h0 => (hfo (k - 1) (by omega)).1) hle hlt hgb
    have hnx := sdP_next hlt (by omega)
    have hcb := cnP_b ht hle (fun g hg => cnG_out hfo hg)
    have hgb1 : -1 ≤ p.getD k default := hgb.1
    have hgb2 : p.getD k default < t.groups.length := hgb.2
    have hgb3 : p.getD k default ≤ 4 := by omega
    have hkh : (k : Int) < t.hours.length := by omega
    have hll : lstP p k = -1 ∨ 1 ≤ (k : Int) := by
      unfold lstP
      by_cases z : k = 0
      · rw [if_pos z]; exact .inl rfl
      · exact .inr (by omega)
    rw [show p.length - k = (p.length - (k + 1)) + 1 by omega, ckN] at hw
    by_cases d1 : erR t p k = 0
    · have d1b : (erR t p k != 0) = false := by simpa using d1
      rw [if_pos d1] at hw
      have hes0 : erS t (sdP p k) (p.getD k default) = 0 := hes.trans d1
      have hz0 : ((0 : Int) != 0) = false := rfl
      simp (maxSteps := 4000000) +contextual (disch := first | omega | exact qdb_ok (by kernel_rfl) | exact okb_ok (by kernel_rfl)) only [bw1,bw2,bw4,bw5,bw6,bw7,bc0,bc1,bc2,bc3,bc4,bc5,bc6,AV.isNilS,AV.isNoRows,wk,binIs,idxV,AV.isSl,AV.rows,ps,pv,AV.outs,AV.outF,AV.dl,AV.cells?,AV.menc,AV.one,D.one,Value.oneCell',↓reduceIte,reduceCtorEq,Nat.reduceAdd,Nat.reduceLeDiff,Nat.reduceEqDiff,Int.reduceNeg,tfb,D.flat,x32_55,eq55,x32_56,eq_self, hlt', hk0, hrp, hes0, hnx, hz0]
      have hk1 : (k : Int) ≤ 1000 := by omega
      refine ⟨?_, ?_, k + 1, ⟨⟨by omega, leM_next hle hlt d1, hw⟩, by omega⟩, rfl, rfl, rfl, rfl, rfl, rfl, rfl, rfl⟩
      · and_intros <;> first | exact ht | exact hgb1 | exact hgb2 | exact hk0 | exact hkh | exact hll | trace_state
      · and_intros <;> first | exact hgb1 | exact hgb3 | exact hk0 | exact hk1 | exact hcb.1.1 | exact hcb.1.2 | exact hcb.2.1.1 | exact hcb.2.1.2 | exact hcb.2.2.1.1 | exact hcb.2.2.1.2 | exact hcb.2.2.2.1.1 | exact hcb.2.2.2.1.2 | exact hcb.2.2.2.2.1 | exact hcb.2.2.2.2.2 | trace_state
    · have d1b : (erR t p k != 0) = true := by simpa using d1
      rw [if_neg d1] at hw
      have hfin : ([], (k : Int), erR t p k) = W := hw
      subst hfin
      simp only []
      simp (maxSteps := 4000000) +contextual (disch := first | omega | exact qdb_ok (by kernel_rfl) | exact okb_ok (by kernel_rfl)) only [bw1,bw2,bw3,bw4,bw5,bw6,bw7,bc0,bc1,bc2,bc3,bc4,bc5,bc6,binIs,idxV,AV.isSl,AV.rows,ps,pv,AV.outs,AV.outF,packD,AV.dl,AV.cells?,AV.menc,AV.one,D.one,Value.oneCell',↓reduceIte,reduceCtorEq,Nat.reduceAdd,Nat.reduceLeDiff,Nat.reduceEqDiff,Int.reduceNeg,tfb,D.flat,x32_55,eq55,eq_self, hlt', hk0, hrp, hes, d1b, d1]
      and_intros <;> first | exact ht | exact hgb1 | exact hgb2 | exact hk0 | exact hkh | exact hll | rfl | trace_state
  obtain rfl : k = p.length := by omega
  rw [Nat.sub_self, ckN] at hw
  subst hw
  simp only []
  simp (maxSteps := 4000000) +contextual (disch := first | omega | exact qdb_ok (by kernel_rfl) | exact okb_ok (by kernel_rfl)) only [bw1,bw2,bw3,bw4,bw5,bw6,bw7,bc0,bc1,bc2,bc3,bc4,bc5,bc6,bc7,binIs,addF,AV.isPtr,AV.isSlice,AV.rows,AV.outs,AV.outF,packD,AV.dl,AV.cells?,AV.menc,AV.one,D.one,Value.oneCell',↓reduceIte,reduceCtorEq,Nat.reduceAdd,Nat.reduceLeDiff,Nat.reduceEqDiff,tfb,eq_self, Int.lt_irrefl]
  exact ⟨rfl, rfl, rfl, rfl, rfl⟩
def ent32 (o : Option (List D)) (K : AV → List AV → Sto → Prop) (i : At K) (e : List AV) (s : Sto) : Prop := entS (α := (Tt) × (List Int)) (fun aa => [.ptr aa.1.c 0, .sl 1 (aa.2.map ic)]) (fun aa => ttOk aa.1 = true ∧ aa.2.length ≤ 1000) (fun aa => .tup [.agg (chC aa.1 aa.2).v, .i (ckR aa.1 aa.2).2.1, .i (ckR aa.1 aa.2).2.2]) o K i e s
theorem ent32_ok {args : List AV} {K : AV → List AV → Sto → Prop} {Q : Kt} {e : List AV} {s : Sto} (h : ent32 (AV.outs s args) K (mk _) e s) : pcall Tryd.prog 32 args K Q e s := entS_ok (fun aa h => pf32 aa.1 aa.2 h) h
theorem eq32 {t : Tt} {p : List Int} {KK : AV → List AV → Sto → Prop} {ii : At KK} {ee : List AV} {ss : Sto} : ent32 (some [.ptr t.c 0, .sl 1 (p.map ic)]) KK ii ee ss = ((ttOk t = true ∧ p.length ≤ 1000) ∧ (.tup [.agg (chC t p).v, .i (ckR t p).2.1, .i (ckR t p).2.2] : D).flat = true ∧ KK (.d (.tup [.agg (chC t p).v, .i (ckR t p).2.1, .i (ckR t p).2.2])) ee ss) := by
  unfold ent32; rw [entS_iff (t, p) (by intro b h; simpa [Prod.ext_iff, and_assoc, Int.ofNat_inj, ints_inj, hrs_inj, grs_inj, hr_inj, gr_inj, tt_inj, bcs_inj, cn_inj, sd_inj] using h)] <;> simp
end Go.Proofs.YtofbbkacihnjdaaDoor
