/- A part of the proof that the last text ends: what functions of the program do, told by plain data. -/
import Derived.Test.YtofbbkacihnjdaaTIa
set_option linter.unusedVariables false
set_option linter.unusedSimpArgs false
namespace Go.Proofs.Ytofbbkacihnjdaa
open Go Go.E Go.Maps
set_option maxRecDepth 100000
set_option maxHeartbeats 4000000
def stepW (worn planed : Pn) (w : Int) (t : Pn) : Pn := ((t.less worn).less planed).more ⟨w, w⟩
def psN (worn planed : Pn) (w : Int) (t : Pn) : Nat → Pn
  | 0 => t
  | k + 1 => stepW worn planed w (psN worn planed w t k)
def isB (kd : Bool) (lim : Int) (t : Pn) : Bool := if kd = true then decide (lim ≤ t.lo) else decide (lim < t.hi)
def zoB (kd : Bool) (lim : Int) (worn planed : Pn) (w : Int) (p : Nat) (z : Zo) : Bool := (List.range p).all fun k => isB kd lim (psN worn planed w z.ice (k + 1)) == kd
def wtB (r : List Zo) (p : Nat) (worn planed : Pn) (kd : Bool) (lim w : Int) : Bool := if r.all (zoB kd lim worn planed w p) = true then kd else !kd
abbrev isC (fu : Nat) (lim : Int) : D := .clo (.func fu) [] [.ptr [.i lim] 0]
def PB (n : Nat) (t : Pn) : Prop := (0 ≤ t.lo ∧ t.lo ≤ 20000 + n * 20001) ∧ 0 ≤ t.hi ∧ t.hi ≤ 20000 + n * 20001
theorem ps_b {worn planed : Pn} {w : Int} {t : Pn} (hw : 0 ≤ w ∧ w ≤ 20001) (h1 : worn.ok = true) (h2 : planed.ok = true) (ht : PB 0 t) : ∀ k, PB k (psN worn planed w t k)
  | 0 => ht
  | k + 1 => by
    have ih := ps_b hw h1 h2 ht k
    unfold PB at *
    unfold Pn.ok at h1 h2
    simp only [Bool.and_eq_true, decide_eq_true_eq] at h1 h2
    unfold psN stepW Pn.less Pn.more
    dsimp only
    have hk : ((k + 1 : Nat) : Int) * 20001 = (k : Int) * 20001 + 20001 := by push_cast; omega
    rw [hk]
    omega
theorem zo_all {kd : Bool} {lim : Int} {worn planed : Pn} {w : Int} {p : Nat} {z : Zo} (h : ∀ k, k < p → isB kd lim (psN worn planed w z.ice (k + 1)) = kd) : zoB kd lim worn planed w p z = true := by
  unfold zoB
  rw [List.all_eq_true]
  intro k hk
  rw [h k (List.mem_range.1 hk)]; simp
theorem zo_not {kd : Bool} {lim : Int} {worn planed : Pn} {w : Int} {p k : Nat} {z : Zo} (hk : k < p) (h : ¬ isB kd lim (psN worn planed w z.ice (k + 1)) = kd) : zoB kd lim worn planed w p z = false := by
  refine Bool.eq_false_iff.2 fun e => h ?_
  have := List.all_eq_true.1 e k (List.mem_range.2 hk)
  exact eq_of_beq this
def O28 : Nat → Sch := fun id => .done
theorem ho28 : Try.f28.body.map (okO O28) = some true := by kernel_rfl
def Cf28 : Nat → List AV → (AV → List AV → Sto → Prop) → Kt → List AV → Sto → Prop := fun f args K Q e s => match f with
  | _ => False
def Ct28 : CT := { f := Cf28, y := noYld, z := fun d => false }
theorem Ct28_ok : Ct28.ok Try.prog := ok_of_f (fun f args K Q e s h => by
  have h : Cf28 f args K Q e s := h
  unfold Cf28 at h; split at h
  · exact h.elim) (fun _ _ _ _ _ _ _ _ _ h => h)
theorem c28 : callable Try.prog 28 = true := by kernel_rfl
theorem pf28 (t : Pn) (lim : Int) : PF Try.prog 28 [.agg t.c, .ptr [.i lim] 0] (fun zz => zz = .ret (.b (decide (lim ≤ t.lo)))) := by
  refine PF_nil (PF_start (O := O28) Ct28_ok hmix ho28 Try.func28 c28 rfl Try.ntmps28 Try.results28 ?_)
  simp (maxSteps := 4000000) +contextual (disch := first | omega | exact qdb_ok (by kernel_rfl) | exact okb_ok (by kernel_rfl)) only [bw1,bw2,bw3,bw5,bw6,bw7,bc1,bc2,bc3,bc4,bc5,bc6,binIs,addF,AV.isPtr,AV.outs,AV.outF,packD,AV.cells?,↓reduceIte,reduceCtorEq,Nat.reduceAdd,Nat.reduceSub,List.reduceReplicate,Nat.reduceLeDiff,Nat.reduceLT,tfb]
  try rfl
def ent28 (o : Option (List D)) (K : AV → List AV → Sto → Prop) (i : At K) (e : List AV) (s : Sto) : Prop := entS (α := (Pn) × (Int)) (fun aa => [.agg aa.1.c, .ptr [.i aa.2] 0]) (fun aa => True) (fun aa => .b (decide (aa.2 ≤ aa.1.lo))) o K i e s
theorem ent28_ok {args : List AV} {K : AV → List AV → Sto → Prop} {Q : Kt} {e : List AV} {s : Sto} (h : ent28 (AV.outs s args) K (mk _) e s) : pcall Try.prog 28 args K Q e s := entS_ok (fun aa h => pf28 aa.1 aa.2) h
theorem eq28 {t : Pn} {lim : Int} {KK : AV → List AV → Sto → Prop} {ii : At KK} {ee : List AV} {ss : Sto} : ent28 (some [.agg t.c, .ptr [.i lim] 0]) KK ii ee ss = ((.b (decide (lim ≤ t.lo)) : D).flat = true ∧ KK (.d (.b (decide (lim ≤ t.lo)))) ee ss) := by
  unfold ent28; rw [entS_iff (t, lim) (by intro b h; simpa [Prod.ext_iff, and_assoc, Int.ofNat_inj, ints_inj, hrs_inj, grs_inj, hr_inj, gr_inj, tt_inj, bcs_inj, cn_inj, sd_inj, pn_inj, zos_inj, zo_inj2, zo_inj] using h)] <;> simp
def O29 : Nat → Sch := fun id => .done
theorem ho29 : Try.f29.body.map (okO O29) = some true := by kernel_rfl
def Cf29 : Nat → List AV → (AV → List AV → Sto → Prop) → Kt → List AV → Sto → Prop := fun f args K Q e s => match f with
  | _ => False
def Ct29 : CT := { f := Cf29, y := noYld, z := fun d => false }
theorem Ct29_ok : Ct29.ok Try.prog := ok_of_f (fun f args K Q e s h => by
  have h : Cf29 f args K Q e s := h
  unfold Cf29 at h; split at h
  · exact h.elim) (fun _ _ _ _ _ _ _ _ _ h => h)
theorem c29 : callable Try.prog 29 = true := by kernel_rfl
theorem pf29 (t : Pn) (lim : Int) : PF Try.prog 29 [.agg t.c, .ptr [.i lim] 0] (fun zz => zz = .ret (.b (decide (lim < t.hi)))) := by
  refine PF_nil (PF_start (O := O29) Ct29_ok hmix ho29 Try.func29 c29 rfl Try.ntmps29 Try.results29 ?_)
  simp (maxSteps := 4000000) +contextual (disch := first | omega | exact qdb_ok (by kernel_rfl) | exact okb_ok (by kernel_rfl)) only [bw1,bw2,bw3,bw5,bw6,bw7,bc1,bc2,bc3,bc4,bc5,bc6,binIs,addF,AV.isPtr,AV.outs,AV.outF,packD,AV.cells?,↓reduceIte,reduceCtorEq,Nat.reduceAdd,Nat.reduceSub,List.reduceReplicate,Nat.reduceLeDiff,Nat.reduceLT,tfb]
  try rfl
def ent29 (o : Option (List D)) (K : AV → List AV → Sto → Prop) (i : At K) (e : List AV) (s : Sto) : Prop := entS (α := (Pn) × (Int)) (fun aa => [.agg aa.1.c, .ptr [.i aa.2] 0]) (fun aa => True) (fun aa => .b (decide (aa.2 < aa.1.hi))) o K i e s
theorem ent29_ok {args : List AV} {K : AV → List AV → Sto → Prop} {Q : Kt} {e : List AV} {s : Sto} (h : ent29 (AV.outs s args) K (mk _) e s) : pcall Try.prog 29 args K Q e s := entS_ok (fun aa h => pf29 aa.1 aa.2) h
theorem eq29 {t : Pn} {lim : Int} {KK : AV → List AV → Sto → Prop} {ii : At KK} {ee : List AV} {ss : Sto} : ent29 (some [.agg t.c, .ptr [.i lim] 0]) KK ii ee ss = ((.b (decide (lim < t.hi)) : D).flat = true ∧ KK (.d (.b (decide (lim < t.hi)))) ee ss) := by
  unfold ent29; rw [entS_iff (t, lim) (by intro b h; simpa [Prod.ext_iff, and_assoc, Int.ofNat_inj, ints_inj, hrs_inj, grs_inj, hr_inj, gr_inj, tt_inj, bcs_inj, cn_inj, sd_inj, pn_inj, zos_inj, zo_inj2, zo_inj] using h)] <;> simp
def O25 : Nat → Sch := fun id => if id = 7 then .one 0 (.one 1 (.one 5 (.one 6 (.one 7 (.alt (.one 2 (.one 3 (.one 4 (.one 8 (.one 9 (.done)))))) (.one 3 (.one 2 (.one 4 (.one 8 (.one 9 (.done))))))))))) else if id = 8 then .one 0 (.one 1 (.alt (.one 2 (.one 3 (.one 4 (.done)))) (.one 3 (.one 2 (.one 4 (.done)))))) else .done
theorem O25_7 : O25 7 = .one 0 (.one 1 (.one 5 (.one 6 (.one 7 (.alt (.one 2 (.one 3 (.one 4 (.one 8 (.one 9 (.done)))))) (.one 3 (.one 2 (.one 4 (.one 8 (.one 9 (.done))))))))))) := rfl
theorem O25_8 : O25 8 = .one 0 (.one 1 (.alt (.one 2 (.one 3 (.one 4 (.done)))) (.one 3 (.one 2 (.one 4 (.done)))))) := rfl
theorem ho25 : Try.f25.body.map (okO O25) = some true := by kernel_rfl
def Cf25 : Nat → List AV → (AV → List AV → Sto → Prop) → Kt → List AV → Sto → Prop := fun f args K Q e s => match f with
  | 26 => ent26 args K e s
  | 27 => ent27 args K e s
  | 28 => ent28 (AV.outs s args) K (mk _) e s
  | 29 => ent29 (AV.outs s args) K (mk _) e s
  | _ => False
def Ct25 : CT := { f := Cf25, y := noYld, z := fun d => false }
theorem Ct25_ok : Ct25.ok Try.prog := ok_of_f (fun f args K Q e s h => by
  have h : Cf25 f args K Q e s := h
  unfold Cf25 at h; split at h
  · exact ent26_ok h
  · exact ent27_ok h
  · exact ent28_ok h
  · exact ent29_ok h
  · exact h.elim) (fun _ _ _ _ _ _ _ _ _ h => h)
theorem x25_26 {t : Pn} {s : Pn} {KK : AV → List AV → Sto → Prop} {QQ : Kt} {ii : At KK} {jj : At QQ} {ee : List AV} {ss : Sto} : xC Ct25 26 [.d (.agg t.c), .d (.agg s.c)] KK QQ ii jj ee ss = ((t.sm ∧ s.sm) ∧ KK (.d (.agg (t.less s).c)) ee ss) := eq26
theorem x25_27 {t : Pn} {x : Int} {y : Int} {KK : AV → List AV → Sto → Prop} {QQ : Kt} {ii : At KK} {jj : At QQ} {ee : List AV} {ss : Sto} : xC Ct25 27 [.d (.agg t.c), .d (.agg [.i x, .i y])] KK QQ ii jj ee ss = ((t.sm ∧ (⟨x, y⟩ : Pn).sm) ∧ KK (.d (.agg (t.more ⟨x, y⟩).c)) ee ss) := eq27
theorem x25_28 {args : List AV} {KK : AV → List AV → Sto → Prop} {QQ : Kt} {ii : At KK} {jj : At QQ} {ee : List AV} {ss : Sto} : xC Ct25 28 args KK QQ ii jj ee ss = ent28 (AV.outs ss args) KK (mk _) ee ss := id rfl
theorem x25_29 {args : List AV} {KK : AV → List AV → Sto → Prop} {QQ : Kt} {ii : At KK} {jj : At QQ} {ee : List AV} {ss : Sto} : xC Ct25 29 args KK QQ ii jj ee ss = ent29 (AV.outs ss args) KK (mk _) ee ss := id rfl
theorem c25 : callable Try.prog 25 = true := by kernel_rfl
theorem pf25 (w : Int) (r : List Zo) (p : Nat) (worn planed : Pn) (fu : Nat) (lim : Int) (kd : Bool) (h : fu = (if kd = true then 28 else 29) ∧ (rkOk r = true ∧ p ≤ 100) ∧ (worn.ok = true ∧ planed.ok = true) ∧ 0 ≤ w ∧ w ≤ 20001) : PF Try.prog 25 [.i w, .ptr [.sl 4 (r.map Zo.c)] 0, .ptr [.i (p : Int)] 0, .ptr worn.c 0, .ptr planed.c 0, .ptr [isC fu lim] 0, .ptr [.b kd] 0] (fun zz => zz = .ret (.b (wtB r p worn planed kd lim w))) := by
  obtain ⟨hfu, ⟨hr, hp⟩, ⟨hwo, hpl⟩, hw⟩ := h
  subst hfu
  obtain ⟨W, hW⟩ : ∃ W, wtB r p worn planed kd lim w = W := ⟨_, rfl⟩
  rw [hW]
  unfold rkOk at hr
  rw [Bool.and_eq_true, inB_iff] at hr
  cases kd
  · refine PF_nil (PF_start (O := O25) Ct25_ok hmix ho25 Try.func25 c25 rfl Try.ntmps25 Try.results25 ?_)
    simp (maxSteps := 4000000) +contextual (disch := first | omega | exact qdb_ok (by kernel_rfl) | exact okb_ok (by kernel_rfl)) only [bw1,bw2,bw4,bw5,bw6,bc2,bc4,bc5,AV.isSlice,AV.rows,↓reduceIte,Nat.reduceAdd,Nat.reduceSub,List.reduceReplicate,Nat.reduceLeDiff,tfb]
    refine loop_xu (O := O25) (tb := 0) Ct25_ok hmix (by kernel_rfl) (σ := Nat) (fun i => [(14, .i i), (10, .any), (11, .any)]) (fun _ => []) (fun i => i ≤ r.length ∧ ∀ q, q < i → zoB false lim worn planed w p (r.getD q default) = true) (fun i => r.length - i) 0 ⟨Nat.zero_le _, fun q hq => by omega⟩ ?_ ?_
    · simp (maxSteps := 4000000) +contextual (disch := first | omega | exact qdb_ok (by kernel_rfl) | exact okb_ok (by kernel_rfl)) only [bw4,bw5,bw6,bc0,bc3,bc5,bc6,AV.isNilS,AV.isNoRows,wk,↓reduceIte,reduceCtorEq,eq_self]
      try rfl
    intro i hi0
    have hi := hi0.1
    have hq := hi0.2
    have hii : (0 : Int) ≤ i := by omega
    by_cases hlt : i < r.length
    case neg =>
      have hlt' : ¬ (i : Int) < r.length := by omega
      have hWv : W = false := by
        rw [← hW]; unfold wtB
        rw [if_pos (all_get.2 fun j hj => hq j (by omega))]
      simp (maxSteps := 4000000) +contextual (disch := first | omega | exact qdb_ok (by kernel_rfl) | exact okb_ok (by kernel_rfl)) only [bw1,bw2,bw3,bw5,bw6,bw7,bc0,bc1,bc2,bc3,bc4,bc5,bc6,binIs,AV.outs,AV.outF,packD,↓reduceIte,Nat.reduceLeDiff,tfb,eq_self, hlt', hWv]
      try rfl
    have hlt' : (i : Int) < r.length := by omega
    have hrz : (r.map Zo.c).getD i [] = Zo.c (r.getD i default) := Go.E.row_at hlt
    have hzb : (r.getD i default).bad = false := by
      refine Bool.eq_false_iff.2 fun e => ?_
      have := hr.2
      rw [Bool.not_eq_true', List.any_eq_false] at this
      exact this _ (by rw [at_lt hlt]; exact List.getElem_mem _) e
    have hpb : PB 0 (r.getD i default).ice := by
      unfold Zo.bad Pn.ok at hzb
      simp only [Bool.or_eq_false_iff, Bool.not_eq_false', Bool.and_eq_true, decide_eq_true_eq] at hzb
      unfold PB
      omega
    obtain ⟨z, hz⟩ : ∃ z, r.getD i default = z := ⟨_, rfl⟩
    rw [hz] at hrz hpb
    simp (maxSteps := 4000000) +contextual (disch := first | omega | exact qdb_ok (by kernel_rfl) | exact okb_ok (by kernel_rfl)) only [bw1,bw2,bw4,bw5,bw6,bw7,bc0,bc1,bc2,bc3,bc4,bc5,bc6,binIs,addF,AV.isPtr,idxV,AV.isSl,AV.rows,ps,pv,AV.dl,AV.cells?,AV.menc,AV.one,D.one,Value.oneCell',↓reduceIte,reduceCtorEq,Nat.reduceAdd,Nat.reduceLeDiff,Nat.reduceLT,Nat.reduceBEq,Nat.reduceEqDiff,tfb,eq_self, hlt', hrz, hii]
    refine loop_xu (O := O25) (tb := 0) Ct25_ok hmix (by kernel_rfl) (σ := Nat) (fun k => [(21, .i k)]) (fun k => [(12, [.i (psN worn planed w z.ice k).lo, .i (psN worn planed w z.ice k).hi])]) (fun k => k ≤ p ∧ ∀ q, q < k → isB false lim (psN worn planed w z.ice (q + 1)) = false) (fun k => p - k) 0 ⟨Nat.zero_le _, fun q hq => by omega⟩ ?_ ?_
    · have hp0 : psN worn planed w z.ice 0 = z.ice := rfl
      simp (maxSteps := 4000000) +contextual (disch := first | omega | exact qdb_ok (by kernel_rfl) | exact okb_ok (by kernel_rfl)) only [bw4,bw5,bw6,bc0,bc3,bc5,bc6,AV.isNilS,AV.isNoRows,wk,↓reduceIte,reduceCtorEq,Nat.reduceEqDiff,eq_self, hp0]
      try rfl
    intro k hk0
    have hk := hk0.1
    have hkq := hk0.2
    by_cases hkp : k < p
    case neg =>
      have hkp' : ¬ (k : Int) < p := by omega
      have hzo : zoB false lim worn planed w p z = true := zo_all fun q hq => hkq q (by omega)
      simp (maxSteps := 4000000) +contextual (disch := first | omega | exact qdb_ok (by kernel_rfl) | exact okb_ok (by kernel_rfl)) only [bw1,bw2,bw5,bw6,bw7,bc0,bc1,bc3,bc4,bc5,bc6,AV.isNilS,AV.isNoRows,wk,binIs,↓reduceIte,reduceCtorEq,Nat.reduceEqDiff,tfb,eq_self, hkp']
      exact ⟨i + 1, ⟨⟨by omega, fun q hq' => by rcases Nat.lt_succ_iff_lt_or_eq.1 hq' with h | h; exact hq q h; rw [h, hz]; exact hzo⟩, by omega⟩, rfl⟩
    have hkp' : (k : Int) < p := by omega
    have hb1 := ps_b hw hwo hpl hpb k
    have hb2 := ps_b hw hwo hpl hpb (k + 1)
    have hst : psN worn planed w z.ice (k + 1) = stepW worn planed w (psN worn planed w z.ice k) := rfl
    obtain ⟨T1, hT1⟩ : ∃ T, psN worn planed w z.ice k = T := ⟨_, rfl⟩
    rw [hT1] at hb1 hst
    have hwb := hwo
    have hpb2 := hpl
    unfold Pn.ok at hwb hpb2
    simp only [Bool.and_eq_true, decide_eq_true_eq] at hwb hpb2
    unfold PB at hb1 hb2
    have hk20 : (k : Int) * 20001 ≤ 100 * 20001 := by omega
    have q1 : T1.sm ∧ worn.sm := by unfold Pn.sm; omega
    have q2 : (T1.less worn).sm ∧ planed.sm := by unfold Pn.sm Pn.less; dsimp only; omega
    have q3 : ((T1.less worn).less planed).sm ∧ (⟨w, w⟩ : Pn).sm := by unfold Pn.sm Pn.less; dsimp only; omega
    have q4 : ((T1.less worn).less planed).more ⟨w, w⟩ = psN worn planed w z.ice (k + 1) := hst.symm
    obtain ⟨T2, hT2⟩ : ∃ T, psN worn planed w z.ice (k + 1) = T := ⟨_, rfl⟩
    rw [hT2] at q4
    have hW2 : ¬ isB false lim T2 = false → W = !false := fun hne => by
      rw [← hW]; unfold wtB
      rw [if_neg]
      intro hall
      have := all_get.1 hall i hlt
      rw [hz, zo_not hkp (by rw [hT2]; exact hne)] at this
      cases this
    by_cases hc : lim < T2.hi
    · have hib : isB false lim T2 = true := by unfold isB; simp [hc]
      have hWv := hW2 (by rw [hib]; decide)
      simp (maxSteps := 4000000) +contextual (disch := first | omega | exact qdb_ok (by kernel_rfl) | exact okb_ok (by kernel_rfl)) only [bw1,bw2,bw3,bw5,bw6,bw7,bc0,bc1,bc2,bc3,bc4,bc5,bc6,binIs,ps,pv,AV.outs,AV.outF,packD,AV.dl,AV.cells?,AV.menc,AV.one,D.one,Value.oneCell',bolV,bolS,↓reduceIte,reduceCtorEq,Nat.reduceAdd,Nat.reduceLeDiff,Nat.reduceEqDiff,tfb,O25_7,O25_8,x25_26,x25_27,x25_29,eq29,eq_self, hkp', hT1, q1, q2, q3, q4, hc, hWv]
      try rfl
    · have hib : isB false lim T2 = false := by unfold isB; simp [hc]
      simp (maxSteps := 4000000) +contextual (disch := first | omega | exact qdb_ok (by kernel_rfl) | exact okb_ok (by kernel_rfl)) only [bw1,bw2,bw3,bw5,bw6,bw7,bc0,bc1,bc2,bc3,bc4,bc5,bc6,AV.isNilS,AV.isNoRows,wk,binIs,ps,pv,AV.outs,AV.outF,AV.dl,AV.cells?,AV.menc,AV.one,D.one,Value.oneCell',bolV,bolS,↓reduceIte,reduceCtorEq,Nat.reduceAdd,Nat.reduceLeDiff,Nat.reduceEqDiff,tfb,O25_7,O25_8,x25_26,x25_27,x25_29,eq29,eq_self, hkp', hT1, q1, q2, q3, q4, hc]
      exact ⟨rfl, k + 1, ⟨⟨by omega, fun q hq' => by rcases Nat.lt_succ_iff_lt_or_eq.1 hq' with h | h; exact hkq q h; rw [h, hT2]; exact hib⟩, by omega⟩, by rw [hT2]; exact ⟨rfl, rfl, rfl⟩⟩
  · refine PF_nil (PF_start (O := O25) Ct25_ok hmix ho25 Try.func25 c25 rfl Try.ntmps25 Try.results25 ?_)
    simp (maxSteps := 4000000) +contextual (disch := first | omega | exact qdb_ok (by kernel_rfl) | exact okb_ok (by kernel_rfl)) only [bw1,bw2,bw4,bw5,bw6,bc2,bc4,bc5,AV.isSlice,AV.rows,↓reduceIte,Nat.reduceAdd,Nat.reduceSub,List.reduceReplicate,Nat.reduceLeDiff,tfb]
    refine loop_xu (O := O25) (tb := 0) Ct25_ok hmix (by kernel_rfl) (σ := Nat) (fun i => [(14, .i i), (10, .any), (11, .any)]) (fun _ => []) (fun i => i ≤ r.length ∧ ∀ q, q < i → zoB true lim worn planed w p (r.getD q default) = true) (fun i => r.length - i) 0 ⟨Nat.zero_le _, fun q hq => by omega⟩ ?_ ?_
    · simp (maxSteps := 4000000) +contextual (disch := first | omega | exact qdb_ok (by kernel_rfl) | exact okb_ok (by kernel_rfl)) only [bw4,bw5,bw6,bc0,bc3,bc5,bc6,AV.isNilS,AV.isNoRows,wk,↓reduceIte,reduceCtorEq,eq_self]
      try rfl
    intro i hi0
    have hi := hi0.1
    have hq := hi0.2
    have hii : (0 : Int) ≤ i := by omega
    by_cases hlt : i < r.length
    case neg =>
      have hlt' : ¬ (i : Int) < r.length := by omega
      have hWv : W = true := by
        rw [← hW]; unfold wtB
        rw [if_pos (all_get.2 fun j hj => hq j (by omega))]
      simp (maxSteps := 4000000) +contextual (disch := first | omega | exact qdb_ok (by kernel_rfl) | exact okb_ok (by kernel_rfl)) only [bw1,bw2,bw3,bw5,bw6,bw7,bc0,bc1,bc2,bc3,bc4,bc5,bc6,binIs,AV.outs,AV.outF,packD,↓reduceIte,Nat.reduceLeDiff,tfb,eq_self, hlt', hWv]
      try rfl
    have hlt' : (i : Int) < r.length := by omega
    have hrz : (r.map Zo.c).getD i [] = Zo.c (r.getD i default) := Go.E.row_at hlt
    have hzb : (r.getD i default).bad = false := by
      refine Bool.eq_false_iff.2 fun e => ?_
      have := hr.2
      rw [Bool.not_eq_true', List.any_eq_false] at this
      exact this _ (by rw [at_lt hlt]; exact List.getElem_mem _) e
    have hpb : PB 0 (r.getD i default).ice := by
      unfold Zo.bad Pn.ok at hzb
      simp only [Bool.or_eq_false_iff, Bool.not_eq_false', Bool.and_eq_true, decide_eq_true_eq] at hzb
      unfold PB
      omega
    obtain ⟨z, hz⟩ : ∃ z, r.getD i default = z := ⟨_, rfl⟩
    rw [hz] at hrz hpb
    simp (maxSteps := 4000000) +contextual (disch := first | omega | exact qdb_ok (by kernel_rfl) | exact okb_ok (by kernel_rfl)) only [bw1,bw2,bw4,bw5,bw6,bw7,bc0,bc1,bc2,bc3,bc4,bc5,bc6,binIs,addF,AV.isPtr,idxV,AV.isSl,AV.rows,ps,pv,AV.dl,AV.cells?,AV.menc,AV.one,D.one,Value.oneCell',↓reduceIte,reduceCtorEq,Nat.reduceAdd,Nat.reduceLeDiff,Nat.reduceLT,Nat.reduceBEq,Nat.reduceEqDiff,tfb,eq_self, hlt', hrz, hii]
    refine loop_xu (O := O25) (tb := 0) Ct25_ok hmix (by kernel_rfl) (σ := Nat) (fun k => [(21, .i k)]) (fun k => [(12, [.i (psN worn planed w z.ice k).lo, .i (psN worn planed w z.ice k).hi])]) (fun k => k ≤ p ∧ ∀ q, q < k → isB true lim (psN worn planed w z.ice (q + 1)) = true) (fun k => p - k) 0 ⟨Nat.zero_le _, fun q hq => by omega⟩ ?_ ?_
    · have hp0 : psN worn planed w z.ice 0 = z.ice := rfl
      simp (maxSteps := 4000000) +contextual (disch := first | omega | exact qdb_ok (by kernel_rfl) | exact okb_ok (by kernel_rfl)) only [bw4,bw5,bw6,bc0,bc3,bc5,bc6,AV.isNilS,AV.isNoRows,wk,↓reduceIte,reduceCtorEq,Nat.reduceEqDiff,eq_self, hp0]
      try rfl
    intro k hk0
    have hk := hk0.1
    have hkq := hk0.2
    by_cases hkp : k < p
    case neg =>
      have hkp' : ¬ (k : Int) < p := by omega
      have hzo : zoB true lim worn planed w p z = true := zo_all fun q hq => hkq q (by omega)
      simp (maxSteps := 4000000) +contextual (disch := first | omega | exact qdb_ok (by kernel_rfl) | exact okb_ok (by kernel_rfl)) only [bw1,bw2,bw5,bw6,bw7,bc0,bc1,bc3,bc4,bc5,bc6,AV.isNilS,AV.isNoRows,wk,binIs,↓reduceIte,reduceCtorEq,Nat.reduceEqDiff,tfb,eq_self, hkp']
      exact ⟨i + 1, ⟨⟨by omega, fun q hq' => by rcases Nat.lt_succ_iff_lt_or_eq.1 hq' with h | h; exact hq q h; rw [h, hz]; exact hzo⟩, by omega⟩, rfl⟩
    have hkp' : (k : Int) < p := by omega
    have hb1 := ps_b hw hwo hpl hpb k
    have hb2 := ps_b hw hwo hpl hpb (k + 1)
    have hst : psN worn planed w z.ice (k + 1) = stepW worn planed w (psN worn planed w z.ice k) := rfl
    obtain ⟨T1, hT1⟩ : ∃ T, psN worn planed w z.ice k = T := ⟨_, rfl⟩
    rw [hT1] at hb1 hst
    have hwb := hwo
    have hpb2 := hpl
    unfold Pn.ok at hwb hpb2
    simp only [Bool.and_eq_true, decide_eq_true_eq] at hwb hpb2
    unfold PB at hb1 hb2
    have hk20 : (k : Int) * 20001 ≤ 100 * 20001 := by omega
    have q1 : T1.sm ∧ worn.sm := by unfold Pn.sm; omega
    have q2 : (T1.less worn).sm ∧ planed.sm := by unfold Pn.sm Pn.less; dsimp only; omega
    have q3 : ((T1.less worn).less planed).sm ∧ (⟨w, w⟩ : Pn).sm := by unfold Pn.sm Pn.less; dsimp only; omega
    have q4 : ((T1.less worn).less planed).more ⟨w, w⟩ = psN worn planed w z.ice (k + 1) := hst.symm
    obtain ⟨T2, hT2⟩ : ∃ T, psN worn planed w z.ice (k + 1) = T := ⟨_, rfl⟩
    rw [hT2] at q4
    have hW2 : ¬ isB true lim T2 = true → W = !true := fun hne => by
      rw [← hW]; unfold wtB
      rw [if_neg]
      intro hall
      have := all_get.1 hall i hlt
      rw [hz, zo_not hkp (by rw [hT2]; exact hne)] at this
      cases this
    by_cases hc : lim ≤ T2.lo
    · have hib : isB true lim T2 = true := by unfold isB; simp [hc]
      simp (maxSteps := 4000000) +contextual (disch := first | omega | exact qdb_ok (by kernel_rfl) | exact okb_ok (by kernel_rfl)) only [bw1,bw2,bw3,bw5,bw6,bw7,bc0,bc1,bc2,bc3,bc4,bc5,bc6,AV.isNilS,AV.isNoRows,wk,binIs,ps,pv,AV.outs,AV.outF,AV.dl,AV.cells?,AV.menc,AV.one,D.one,Value.oneCell',bolV,bolS,↓reduceIte,reduceCtorEq,Nat.reduceAdd,Nat.reduceLeDiff,Nat.reduceEqDiff,tfb,O25_7,O25_8,x25_26,x25_27,x25_28,eq28,eq_self, hkp', hT1, q1, q2, q3, q4, hc]
      exact ⟨rfl, k + 1, ⟨⟨by omega, fun q hq' => by rcases Nat.lt_succ_iff_lt_or_eq.1 hq' with h | h; exact hkq q h; rw [h, hT2]; exact hib⟩, by omega⟩, by rw [hT2]; exact ⟨rfl, rfl, rfl⟩⟩
    · have hib : isB true lim T2 = false := by unfold isB; simp [hc]
      have hWv := hW2 (by rw [hib]; decide)
      simp (maxSteps := 4000000) +contextual (disch := first | omega | exact qdb_ok (by kernel_rfl) | exact okb_ok (by kernel_rfl)) only [bw1,bw2,bw3,bw5,bw6,bw7,bc0,bc1,bc2,bc3,bc4,bc5,bc6,binIs,ps,pv,AV.outs,AV.outF,packD,AV.dl,AV.cells?,AV.menc,AV.one,D.one,Value.oneCell',bolV,bolS,↓reduceIte,reduceCtorEq,Nat.reduceAdd,Nat.reduceLeDiff,Nat.reduceEqDiff,tfb,O25_7,O25_8,x25_26,x25_27,x25_28,eq28,eq_self, hkp', hT1, q1, q2, q3, q4, hc, hWv]
      try rfl
def ent25 (o : Option (List D)) (K : AV → List AV → Sto → Prop) (i : At K) (e : List AV) (s : Sto) : Prop := entS (α := (Int) × (List Zo) × (Nat) × (Pn) × (Pn) × (Nat) × (Int) × (Bool)) (fun aa => [.i aa.1, .ptr [.sl 4 (aa.2.1.map Zo.c)] 0, .ptr [.i (aa.2.2.1 : Int)] 0, .ptr aa.2.2.2.1.c 0, .ptr aa.2.2.2.2.1.c 0, .ptr [isC aa.2.2.2.2.2.1 aa.2.2.2.2.2.2.1] 0, .ptr [.b aa.2.2.2.2.2.2.2] 0]) (fun aa => aa.2.2.2.2.2.1 = (if aa.2.2.2.2.2.2.2 = true then 28 else 29) ∧ (rkOk aa.2.1 = true ∧ aa.2.2.1 ≤ 100) ∧ (aa.2.2.2.1.ok = true ∧ aa.2.2.2.2.1.ok = true) ∧ 0 ≤ aa.1 ∧ aa.1 ≤ 20001) (fun aa => .b (wtB aa.2.1 aa.2.2.1 aa.2.2.2.1 aa.2.2.2.2.1 aa.2.2.2.2.2.2.2 aa.2.2.2.2.2.2.1 aa.1)) o K i e s
theorem ent25_ok {args : List AV} {K : AV → List AV → Sto → Prop} {Q : Kt} {e : List AV} {s : Sto} (h : ent25 (AV.outs s args) K (mk _) e s) : pcall Try.prog 25 args K Q e s := entS_ok (fun aa h => pf25 aa.1 aa.2.1 aa.2.2.1 aa.2.2.2.1 aa.2.2.2.2.1 aa.2.2.2.2.2.1 aa.2.2.2.2.2.2.1 aa.2.2.2.2.2.2.2 h) h
theorem eq25 {w : Int} {r : List Zo} {p : Nat} {worn : Pn} {planed : Pn} {fu : Nat} {lim : Int} {kd : Bool} {KK : AV → List AV → Sto → Prop} {ii : At KK} {ee : List AV} {ss : Sto} : ent25 (some [.i w, .ptr [.sl 4 (r.map Zo.c)] 0, .ptr [.i (p : Int)] 0, .ptr worn.c 0, .ptr planed.c 0, .ptr [isC fu lim] 0, .ptr [.b kd] 0]) KK ii ee ss = ((fu = (if kd = true then 28 else 29) ∧ (rkOk r = true ∧ p ≤ 100) ∧ (worn.ok = true ∧ planed.ok = true) ∧ 0 ≤ w ∧ w ≤ 20001) ∧ (.b (wtB r p worn planed kd lim w) : D).flat = true ∧ KK (.d (.b (wtB r p worn planed kd lim w))) ee ss) := by
  unfold ent25; rw [entS_iff (w, r, p, worn, planed, fu, lim, kd) (by intro b h; simpa [Prod.ext_iff, and_assoc, Int.ofNat_inj, ints_inj, hrs_inj, grs_inj, hr_inj, gr_inj, tt_inj, bcs_inj, cn_inj, sd_inj, pn_inj, zos_inj, zo_inj2, zo_inj] using h)] <;> simp
end Go.Proofs.Ytofbbkacihnjdaa
