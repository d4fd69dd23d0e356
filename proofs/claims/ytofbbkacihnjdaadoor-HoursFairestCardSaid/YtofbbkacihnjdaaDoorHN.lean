/- A part of the proof that the last text ends: what functions of the program do, told by plain data. -/
import Derived.Test.YtofbbkacihnjdaaDoorHM
set_option linter.unusedVariables false
set_option linter.unusedSimpArgs false
namespace Go.Proofs.YtofbbkacihnjdaaDoor
open Go Go.E Go.Maps
set_option maxRecDepth 100000
set_option maxHeartbeats 16000000
def hcN (t : Tt) (c : Cn) (k : Nat) : List Int := (List.range k).map fun g : Nat => c.at (g : Int) + (t.groups.getD g default).cred
def hcL (t : Tt) (c : Cn) : List Int := hcN t c t.groups.length
theorem hcN_succ {t : Tt} {c : Cn} {k : Nat} : hcN t c (k + 1) = hcN t c k ++ [c.at (k : Int) + (t.groups.getD k default).cred] := by
  unfold hcN; rw [List.range_succ, List.map_append]; rfl
theorem hcN_len {t : Tt} {c : Cn} {k : Nat} : (hcN t c k).length = k := by simp [hcN]
theorem hcL_len {t : Tt} {c : Cn} : (hcL t c).length = t.groups.length := hcN_len
theorem cn_b {c : Cn} (h : CnB c) (g : Int) : 0 ≤ c.at g ∧ c.at g ≤ 12 := by
  unfold CnB at h
  unfold Cn.at
  repeat' split
  all_goals omega
def O60 : Nat → Sch := fun id => if id = 1 then .one 0 (.one 1 (.one 2 (.one 3 (.one 4 (.one 5 (.one 6 (.done))))))) else .done
theorem O60_1 : O60 1 = .one 0 (.one 1 (.one 2 (.one 3 (.one 4 (.one 5 (.one 6 (.done))))))) := rfl
theorem ho60 : Tryd.f60.body.map (okO O60) = some true := by kernel_rfl
def Cf60 : Nat → List AV → (AV → List AV → Sto → Prop) → Kt → List AV → Sto → Prop := fun f args K Q e s => match f with
  | _ => False
def Ct60 : CT := { f := Cf60, y := noYld, z := fun d => false }
theorem Ct60_ok : Ct60.ok Tryd.prog := ok_of_f (fun f args K Q e s h => by
  have h : Cf60 f args K Q e s := h
  unfold Cf60 at h; split at h
  · exact h.elim) (fun _ _ _ _ _ _ _ _ _ h => h)
theorem c60 : callable Tryd.prog 60 = true := by kernel_rfl
theorem pf60 (i : Int) (g : Gr) (c : Cn) (h : (0 ≤ i ∧ i < 5) ∧ CnB c ∧ 0 ≤ g.cred ∧ g.cred ≤ 1000) : PF Tryd.prog 60 [.i i, .agg g.c, .ptr c.v 0] (fun zz => zz = .ret (.i (c.at i + g.cred))) := by
  obtain ⟨⟨h1, h2⟩, hc, hg⟩ := h
  obtain ⟨k, rfl⟩ : ∃ k : Nat, i = (k : Int) := ⟨i.toNat, by omega⟩
  have hb := cn_b hc (k : Int)
  have hat : c.v.getD k (.v undef) = .i (c.at (k : Int)) := by
    rcases (show k = 0 ∨ k = 1 ∨ k = 2 ∨ k = 3 ∨ k = 4 by omega) with rfl | rfl | rfl | rfl | rfl <;> rfl
  have hat' : [D.i c.a, D.i c.b, D.i c.c, D.i c.d, D.i c.e].getD k (.v undef) = .i (c.at (k : Int)) := hat
  have hk5 : k ≤ 4 := by omega
  have hk6 : (k : Int) < 5 := by omega
  have hk7 : (k : Int) < 0 + 1 + 1 + 1 + 1 + 1 := by omega
  have hk0 : (0 : Int) ≤ k := by omega
  have hmul : k * 1 = k := Nat.mul_one k
  refine PF_nil (PF_start (O := O60) Ct60_ok hmix ho60 Tryd.func60 c60 rfl Tryd.ntmps60 Tryd.results60 ?_)
  simp (maxSteps := 4000000) +contextual (disch := first | omega | exact qdb_ok (by kernel_rfl) | exact okb_ok (by kernel_rfl)) only [bw1,bw2,bw3,bw4,bw5,bw6,bw7,bc1,bc2,bc3,bc4,bc5,bc6,binIs,addF,AV.isPtr,ps,pv,AV.outs,AV.outF,packD,AV.cells?,↓reduceIte,reduceCtorEq,Nat.reduceAdd,Nat.reduceSub,List.reduceReplicate,Nat.reduceLeDiff,Nat.reduceLT,tfb,O60_1,hat, hk5, hk7, hk0, hmul]
  try (and_intros <;> first | omega | rfl)
def ent60 (o : Option (List D)) (K : AV → List AV → Sto → Prop) (i : At K) (e : List AV) (s : Sto) : Prop := entS (α := (Int) × (Gr) × (Cn)) (fun aa => [.i aa.1, .agg aa.2.1.c, .ptr aa.2.2.v 0]) (fun aa => (0 ≤ aa.1 ∧ aa.1 < 5) ∧ CnB aa.2.2 ∧ 0 ≤ aa.2.1.cred ∧ aa.2.1.cred ≤ 1000) (fun aa => .i (aa.2.2.at aa.1 + aa.2.1.cred)) o K i e s
theorem ent60_ok {args : List AV} {K : AV → List AV → Sto → Prop} {Q : Kt} {e : List AV} {s : Sto} (h : ent60 (AV.outs s args) K (mk _) e s) : pcall Tryd.prog 60 args K Q e s := entS_ok (fun aa h => pf60 aa.1 aa.2.1 aa.2.2 h) h
theorem eq60 {i : Int} {g : Gr} {c : Cn} {KK : AV → List AV → Sto → Prop} {ii : At KK} {ee : List AV} {ss : Sto} : ent60 (some [.i i, .agg g.c, .ptr c.v 0]) KK ii ee ss = (((0 ≤ i ∧ i < 5) ∧ CnB c ∧ 0 ≤ g.cred ∧ g.cred ≤ 1000) ∧ (.i (c.at i + g.cred) : D).flat = true ∧ KK (.d (.i (c.at i + g.cred))) ee ss) := by
  unfold ent60; rw [entS_iff (i, g, c) (by intro b h; simpa [Prod.ext_iff, and_assoc, Int.ofNat_inj, ints_inj, hrs_inj, grs_inj, hr_inj, gr_inj, tt_inj, bcs_inj, cn_inj, sd_inj] using h)] <;> simp
def O59 : Nat → Sch := fun id => .done
theorem ho59 : Tryd.f59.body.map (okO O59) = some true := by kernel_rfl
def Cf59 : Nat → List AV → (AV → List AV → Sto → Prop) → Kt → List AV → Sto → Prop := fun f args K Q e s => match f with
  | 60 => ent60 (AV.outs s args) K (mk _) e s
  | 69 => ent69 args K e s
  | _ => False
def Ct59 : CT := { f := Cf59, y := noYld, z := fun d => false }
theorem ctz59 {d : Nat} : CT.z Ct59 d = (false) := id rfl
theorem Ct59_ok : Ct59.ok Tryd.prog := ok_of_f (fun f args K Q e s h => by
  have h : Cf59 f args K Q e s := h
  unfold Cf59 at h; split at h
  · exact ent60_ok h
  · exact ent69_ok h
  · exact h.elim) (fun _ _ _ _ _ _ _ _ _ h => h)
theorem x59_60 {args : List AV} {KK : AV → List AV → Sto → Prop} {QQ : Kt} {ii : At KK} {jj : At QQ} {ee : List AV} {ss : Sto} : xC Ct59 60 args KK QQ ii jj ee ss = ent60 (AV.outs ss args) KK (mk _) ee ss := id rfl
theorem x59_69 {l : List Int} {gg : Nat} {KK : AV → List AV → Sto → Prop} {QQ : Kt} {ii : At KK} {jj : At QQ} {ee : List AV} {ss : Sto} : xC Ct59 69 [.own gg 3 1 (l.map ic)] KK QQ ii jj ee ss = ((l.length ≤ 12) ∧ upOk gg 3 1 (l.map ic) ee ss ∧ KK (.d (.tup [])) (ee.map (AV.ups gg ((isort l).map ic))) (ss.ups gg ((isort l).map ic))) := eq69
theorem c59 : callable Tryd.prog 59 = true := by kernel_rfl
def O58 : Nat → Sch := fun id => .done
theorem ho58 : Tryd.f58.body.map (okO O58) = some true := by kernel_rfl
def Cf58 : Nat → List AV → (AV → List AV → Sto → Prop) → Kt → List AV → Sto → Prop := fun f args K Q e s => match f with
  | 59 => inlE Tryd.prog Ct59 O59 59000 59 args K Q e s
  | _ => False
def Ct58 : CT := { f := Cf58, y := noYld, z := fun d => false }
theorem Ct58_ok : Ct58.ok Tryd.prog := ok_of_f (fun f args K Q e s h => by
  have h : Cf58 f args K Q e s := h
  unfold Cf58 at h; split at h
  · exact inlE_ok Ct59_ok hmix ho59 h
  · exact h.elim) (fun _ _ _ _ _ _ _ _ _ h => h)
theorem z58_59 : type_of% (@xinl Tryd.prog Ct58 Ct59 O59 59000 59 _ _ _ _ rfl c59 Tryd.func59 rfl Tryd.ntmps59 Tryd.results59) := @xinl Tryd.prog Ct58 Ct59 O59 59000 59 _ _ _ _ rfl c59 Tryd.func59 rfl Tryd.ntmps59 Tryd.results59
theorem c58 : callable Tryd.prog 58 = true := by kernel_rfl
theorem pf58 (c : Cn) (t : Tt) (h : ttOk t = true ∧ CnB c) : PFn Tryd.prog 58 [.agg c.v, .ptr [.ptr t.c 0] 0] (fun zz => zz = .ret (.sl 1 ((isort (hcL t c)).map ic))) := by
  obtain ⟨ht, hc⟩ := h
  have hbig := tt_hours ht
  refine PFn_nil (PFn_start (O := O58) Ct58_ok hmix ho58 Tryd.func58 c58 rfl Tryd.ntmps58 Tryd.results58 ?_)
  simp (maxSteps := 4000000) +contextual (disch := first | omega | exact qdb_ok (by kernel_rfl) | exact okb_ok (by kernel_rfl)) only [bw1,bw2,bw3,bw4,bw5,bw6,bc0,bc2,bc3,bc4,bc5,bc6,addF,AV.isPtr,AV.isSlice,AV.rows,AV.dl,AV.cells?,↓reduceIte,reduceCtorEq,Nat.reduceAdd,Nat.reduceSub,List.reduceReplicate,Nat.reduceLeDiff,Nat.reduceLT,tfb,z58_59]
  refine seed (m1 := mk _) (m2 := mk _) 5 59022 3 1 (by decide) rfl rfl (by simp [Sto.mens, AV.mens, AV.men]) rfl ?_
  refine loop_xu (O := O59) (tb := 59000) Ct59_ok hmix (by kernel_rfl) (σ := Nat) (fun k => [(5, .own 59022 3 1 ((hcN t c k).map ic)), (10, .i k), (6, .any), (7, .any)]) (fun _ => []) (fun k => k ≤ t.groups.length) (fun k => t.groups.length - k) 0 (Nat.zero_le _) ?_ ?_
  · have hz0 : (hcN t c 0).map ic = [] := rfl
    simp (maxSteps := 4000000) +contextual (disch := first | omega | exact qdb_ok (by kernel_rfl) | exact okb_ok (by kernel_rfl)) only [bw4,bw5,bw6,bc0,bc3,bc5,bc6,AV.isNilS,AV.isNoRows,wk,↓reduceIte,reduceCtorEq,eq_self, hz0]
    try rfl
  rintro k hk
  have hql := hcN_len (t := t) (c := c) (k := k)
  by_cases hlt : k < t.groups.length
  · have hlt' : (k : Int) < t.groups.length := by omega
    have hk0 : (0 : Int) ≤ k := by omega
    have hk5 : (k : Int) < 5 := by omega
    have hrg : (t.groups.map Gr.c).getD k [] = Gr.c (t.groups.getD k default) := Go.E.row_at hlt
    have hgr := tt_group ht hlt
    have hcr : 0 ≤ (t.groups.getD k default).cred ∧ (t.groups.getD k default).cred ≤ 1000 := hgr.2.2
    have hb := cn_b hc (k : Int)
    have hs : (hcN t c k).map ic ++ [[D.v (Value.int .i64 (c.at (k : Int) + (t.groups.getD k default).cred))]] = (hcN t c (k + 1)).map ic := by
      rw [hcN_succ, List.map_append]; rfl
    simp (maxSteps := 4000000) +contextual (disch := first | omega | exact qdb_ok (by kernel_rfl) | exact okb_ok (by kernel_rfl)) only [bw1,bw2,bw3,bw4,bw5,bw6,bw7,bc0,bc1,bc2,bc3,bc4,bc5,bc6,AV.isNilS,AV.isNoRows,wk,binIs,idxV,AV.isSl,AV.rows,ps,pv,AV.outs,AV.outF,AV.dl,AV.cells?,AV.menc,AV.one,D.one,Value.oneCell',tagOf,AV.isApp,AV.dcells,D.cells?,↓reduceIte,reduceCtorEq,Nat.reduceAdd,Nat.reduceMul,List.reduceReplicate,Nat.reduceLeDiff,Nat.reduceLT,Nat.reduceBEq,Nat.reduceEqDiff,tfb,D.flat,ctz59,x59_60,eq60,eq_self, hlt', hk0, hk5, hrg, hs, hql, hc, hcr]
    repeat (refine And.intro (by omega) ?_)
    exact ⟨k + 1, ⟨by omega, by omega⟩, rfl, rfl⟩
  have hkn : ¬ (k : Int) < t.groups.length := by omega
  have hke : hcN t c k = hcL t c := by
    unfold hcL
    rw [show k = t.groups.length by omega]
  have hl12 : (hcL t c).length ≤ 12 := by rw [hcL_len]; omega
  have hfl := ics_flat (isort (hcL t c))
  simp (maxSteps := 4000000) +contextual (disch := first | omega | exact qdb_ok (by kernel_rfl) | exact okb_ok (by kernel_rfl)) only [bw1,bw2,bw3,bw5,bw6,bw7,bc0,bc1,bc2,bc3,bc4,bc5,bc6,binIs,packD,packA,↓reduceIte,reduceCtorEq,Nat.reduceAdd,Nat.reduceLT,Nat.reduceBEq,Nat.reduceEqDiff,tfb,AV.outN,n_retr,upOk,bu0,x59_69,eq_self, hkn, hke, hl12, hfl]
  try (and_intros <;> first | omega | rfl)
def cmpC (t : Tt) (a b : Cn) : Int := cmpL (isort (hcL t a)) (isort (hcL t b))
def ent58 (o : Option (List D)) (K : AV → List AV → Sto → Prop) (i : At K) (e : List AV) (s : Sto) : Prop := entSn (α := (Cn) × (Tt)) (fun aa => [.agg aa.1.v, .ptr [.ptr aa.2.c 0] 0]) (fun aa => ttOk aa.2 = true ∧ CnB aa.1) (fun aa => .sl 1 ((isort (hcL aa.2 aa.1)).map ic)) o K i e s
theorem ent58_ok {args : List AV} {K : AV → List AV → Sto → Prop} {Q : Kt} {e : List AV} {s : Sto} (h : ent58 (AV.outs s args) K (mk _) e s) : pcall Tryd.prog 58 args K Q e s := entSn_ok (fun aa h => pf58 aa.1 aa.2 h) h
theorem eq58 {c : Cn} {t : Tt} {KK : AV → List AV → Sto → Prop} {ii : At KK} {ee : List AV} {ss : Sto} : ent58 (some [.agg c.v, .ptr [.ptr t.c 0] 0]) KK ii ee ss = ((ttOk t = true ∧ CnB c) ∧ KK (.d (.sl 1 ((isort (hcL t c)).map ic))) ee ss) := by
  unfold ent58; rw [entSn_iff (c, t) (by intro b h; simpa [Prod.ext_iff, and_assoc, Int.ofNat_inj, ints_inj, hrs_inj, grs_inj, hr_inj, gr_inj, tt_inj, bcs_inj, cn_inj, sd_inj] using h)] <;> simp
def O35 : Nat → Sch := fun id => if id = 2 then .one 0 (.one 1 (.one 3 (.alt (.one 2 (.one 4 (.one 5 (.one 6 (.one 7 (.done)))))) (.one 4 (.one 2 (.one 5 (.one 6 (.one 7 (.done))))))))) else .done
theorem O35_2 : O35 2 = .one 0 (.one 1 (.one 3 (.alt (.one 2 (.one 4 (.one 5 (.one 6 (.one 7 (.done)))))) (.one 4 (.one 2 (.one 5 (.one 6 (.one 7 (.done))))))))) := rfl
theorem ho35 : Tryd.f35.body.map (okO O35) = some true := by kernel_rfl
def Cf35 : Nat → List AV → (AV → List AV → Sto → Prop) → Kt → List AV → Sto → Prop := fun f args K Q e s => match f with
  | 46 => ent46 args K e s
  | 58 => ent58 (AV.outs s args) K (mk _) e s
  | _ => False
def Ct35 : CT := { f := Cf35, y := noYld, z := fun d => false }
theorem Ct35_ok : Ct35.ok Tryd.prog := ok_of_f (fun f args K Q e s h => by
  have h : Cf35 f args K Q e s := h
  unfold Cf35 at h; split at h
  · exact ent46_ok h
  · exact ent58_ok h
  · exact h.elim) (fun _ _ _ _ _ _ _ _ _ h => h)
theorem x35_58 {args : List AV} {KK : AV → List AV → Sto → Prop} {QQ : Kt} {ii : At KK} {jj : At QQ} {ee : List AV} {ss : Sto} : xC Ct35 58 args KK QQ ii jj ee ss = ent58 (AV.outs ss args) KK (mk _) ee ss := id rfl
theorem x35_46 {x : List Int} {y : List Int} {KK : AV → List AV → Sto → Prop} {QQ : Kt} {ii : At KK} {jj : At QQ} {ee : List AV} {ss : Sto} : xC Ct35 46 [.d (.sl 1 (x.map ic)), .d (.sl 1 (y.map ic))] KK QQ ii jj ee ss = ((x.length ≤ 1000 ∧ y.length = x.length) ∧ KK (.d (.i (cmpL x y))) ee ss) := eq46
theorem c35 : callable Tryd.prog 35 = true := by kernel_rfl
theorem pf35 (t : Tt) (a b : Cn) (h : ttOk t = true ∧ CnB a ∧ CnB b) : PF Tryd.prog 35 [.ptr t.c 0, .agg a.v, .agg b.v] (fun zz => zz = .ret (.i (cmpC t a b))) := by
  obtain ⟨ht, ha, hb⟩ := h
  have hbig := tt_hours ht
  have hl1 : (isort (hcL t a)).length ≤ 1000 := by rw [isort_len, hcL_len]; omega
  have hl2 : (isort (hcL t b)).length = (isort (hcL t a)).length := by rw [isort_len, isort_len, hcL_len, hcL_len]
  have hw : cmpC t a b = cmpL (isort (hcL t a)) (isort (hcL t b)) := rfl
  refine PF_nil (PF_start (O := O35) Ct35_ok hmix ho35 Tryd.func35 c35 rfl Tryd.ntmps35 Tryd.results35 ?_)
  simp (maxSteps := 4000000) +contextual (disch := first | omega | exact qdb_ok (by kernel_rfl) | exact okb_ok (by kernel_rfl)) only [bw1,bw2,bw3,bw5,bw6,bc0,bc2,bc3,bc4,bc5,bc6,AV.outs,AV.outF,packD,AV.dl,AV.cells?,AV.one,D.one,↓reduceIte,reduceCtorEq,Nat.reduceAdd,Nat.reduceSub,List.reduceReplicate,Nat.reduceLeDiff,Nat.reduceLT,Nat.reduceBEq,Nat.reduceEqDiff,tfb,O35_2,x35_58,eq58,x35_46,ht, ha, hb, hl1, hl2, hw]
  try (and_intros <;> first | omega | rfl)
def ent35 (o : Option (List D)) (K : AV → List AV → Sto → Prop) (i : At K) (e : List AV) (s : Sto) : Prop := entS (α := (Tt) × (Cn) × (Cn)) (fun aa => [.ptr aa.1.c 0, .agg aa.2.1.v, .agg aa.2.2.v]) (fun aa => ttOk aa.1 = true ∧ CnB aa.2.1 ∧ CnB aa.2.2) (fun aa => .i (cmpC aa.1 aa.2.1 aa.2.2)) o K i e s
theorem ent35_ok {args : List AV} {K : AV → List AV → Sto → Prop} {Q : Kt} {e : List AV} {s : Sto} (h : ent35 (AV.outs s args) K (mk _) e s) : pcall Tryd.prog 35 args K Q e s := entS_ok (fun aa h => pf35 aa.1 aa.2.1 aa.2.2 h) h
theorem eq35 {t : Tt} {a : Cn} {b : Cn} {KK : AV → List AV → Sto → Prop} {ii : At KK} {ee : List AV} {ss : Sto} : ent35 (some [.ptr t.c 0, .agg a.v, .agg b.v]) KK ii ee ss = ((ttOk t = true ∧ CnB a ∧ CnB b) ∧ (.i (cmpC t a b) : D).flat = true ∧ KK (.d (.i (cmpC t a b))) ee ss) := by
  unfold ent35; rw [entS_iff (t, a, b) (by intro b h; simpa [Prod.ext_iff, and_assoc, Int.ofNat_inj, ints_inj, hrs_inj, grs_inj, hr_inj, gr_inj, tt_inj, bcs_inj, cn_inj, sd_inj] using h)] <;> simp
end Go.Proofs.YtofbbkacihnjdaaDoor
