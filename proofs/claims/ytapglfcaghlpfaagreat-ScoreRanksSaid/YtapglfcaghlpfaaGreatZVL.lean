/- A part of the proof that the last text ends: what functions of the program do, told by plain data. -/
import Derived.Test.YtapglfcaghlpfaaGreatZUE
set_option linter.unusedVariables false
set_option linter.unusedSimpArgs false
namespace Go.Proofs.YtapglfcaghlpfaaGreat
open Go Go.E Go.Maps
set_option maxRecDepth 100000
set_option maxHeartbeats 16000000
def beN (x t : Sco) : Int := if better x t = true then 1 else 0
def bC (l : List Sco) (t : Sco) : Nat → Int
  | 0 => 0
  | k + 1 => bC l t k + beN (l.getD k default) t
theorem bC_b {l : List Sco} {t : Sco} : ∀ k, 0 ≤ bC l t k ∧ bC l t k ≤ k
  | 0 => by simp [bC]
  | k + 1 => by
    have := bC_b (l := l) (t := t) k
    unfold bC beN
    split <;> omega
def rkR (l : List Sco) (k : Nat) : List Int := (List.range k).map fun i => 1 + bC l (l.getD i default) l.length
theorem rkR_succ {l : List Sco} {k : Nat} : rkR l (k + 1) = rkR l k ++ [1 + bC l (l.getD k default) l.length] := by
  unfold rkR; rw [List.range_succ, List.map_append]; rfl
theorem rkR_len {l : List Sco} {k : Nat} : (rkR l k).length = k := by unfold rkR; rw [List.length_map, List.length_range]
def rkG (l : List Sco) : List Int × Int := if (40 : Int) < l.length then ([], 3) else (rkR l l.length, 0)
theorem better_self {a : Sco} : better a a = false := by
  unfold better; simp
def O18 : Nat → Sch := fun id => .done
theorem ho18 : Tryz.f18.body.map (okO O18) = some true := by kernel_rfl
def Cf18 : Nat → List AV → (AV → List AV → Sto → Prop) → Kt → List AV → Sto → Prop := fun f args K Q e s => match f with
  | 19 => ent19 args K e s
  | _ => False
def Ct18 : CT := { f := Cf18, y := noYld, z := fun d => false }
theorem Ct18_ok : Ct18.ok Tryz.prog := ok_of_f (fun f args K Q e s h => by
  have h : Cf18 f args K Q e s := h
  unfold Cf18 at h; split at h
  · exact ent19_ok h
  · exact h.elim) (fun _ _ _ _ _ _ _ _ _ h => h)
theorem x18_19 {a : Sco} {b : Sco} {KK : AV → List AV → Sto → Prop} {QQ : Kt} {ii : At KK} {jj : At QQ} {ee : List AV} {ss : Sto} : xC Ct18 19 [.d (.agg a.c), .d (.agg b.c)] KK QQ ii jj ee ss = (KK (.d (.b (better a b))) ee ss) := eq19
theorem c18 : callable Tryz.prog 18 = true := by kernel_rfl
theorem pf18 (x t : Sco) : PF Tryz.prog 18 [.agg x.c, .ptr t.c 0] (fun zz => zz = .ret (.i (beN x t))) := by
  by_cases c : x = t
  · subst c
    have hb : beN x x = 0 := by unfold beN; rw [better_self]; rfl
    rw [hb]
    refine PF_nil (PF_start (O := O18) Ct18_ok hmix ho18 Tryz.func18 c18 rfl Tryz.ntmps18 Tryz.results18 ?_)
    simp (maxSteps := 4000000) +contextual (disch := first | omega | exact qdb_ok (by kernel_rfl) | exact okb_ok (by kernel_rfl)) only [bw1,bw2,bw3,bw5,bw6,bw7,bc0,bc1,bc2,bc3,bc4,bc5,bc6,AV.outs,AV.outF,packD,AV.dl,AV.cells?,stcV,stcS,leafOk,eqDs,eqD,↓reduceIte,reduceCtorEq,Nat.reduceAdd,Nat.reduceSub,List.reduceReplicate,Nat.reduceLeDiff,Nat.reduceLT,tfb]
  · have hq : (x.elements == t.elements && (x.parts == t.parts && (x.off == t.off && x.total == t.total))) = false := by
      rw [Bool.eq_false_iff]
      intro h
      simp only [Bool.and_eq_true, beq_iff_eq] at h
      refine c ?_
      cases x; cases t
      simp_all
    by_cases d : better x t = true
    · have hb : beN x t = 1 := by unfold beN; rw [if_pos d]
      rw [hb]
      refine PF_nil (PF_start (O := O18) Ct18_ok hmix ho18 Tryz.func18 c18 rfl Tryz.ntmps18 Tryz.results18 ?_)
      simp (maxSteps := 4000000) +contextual (disch := first | omega | exact qdb_ok (by kernel_rfl) | exact okb_ok (by kernel_rfl)) only [bw1,bw2,bw3,bw5,bw6,bw7,bc0,bc1,bc2,bc3,bc4,bc5,bc6,bc7,AV.outs,AV.outF,packD,AV.dl,AV.cells?,stcV,stcS,leafOk,eqDs,eqD,↓reduceIte,reduceCtorEq,Nat.reduceAdd,Nat.reduceSub,List.reduceReplicate,Nat.reduceLeDiff,Nat.reduceLT,Int.reduceEq,tfb,x18_19,d]
      exact fun h => h hq
    · have hb : beN x t = 0 := by unfold beN; rw [if_neg d]
      rw [hb]
      refine PF_nil (PF_start (O := O18) Ct18_ok hmix ho18 Tryz.func18 c18 rfl Tryz.ntmps18 Tryz.results18 ?_)
      simp (maxSteps := 4000000) +contextual (disch := first | omega | exact qdb_ok (by kernel_rfl) | exact okb_ok (by kernel_rfl)) only [bw1,bw2,bw3,bw5,bw6,bw7,bc0,bc1,bc2,bc3,bc4,bc5,bc6,AV.outs,AV.outF,packD,AV.dl,AV.cells?,stcV,stcS,leafOk,eqDs,eqD,↓reduceIte,reduceCtorEq,Nat.reduceAdd,Nat.reduceSub,List.reduceReplicate,Nat.reduceLeDiff,Nat.reduceLT,tfb,x18_19,d]
def ent18 (args : List AV) (K : AV → List AV → Sto → Prop) (e : List AV) (s : Sto) : Prop := ent (α := (Sco) × (Sco)) (fun aa => [.agg aa.1.c, .ptr aa.2.c 0]) (fun aa => True) (fun aa => .i (beN aa.1 aa.2)) args K e s
theorem ent18_ok {args : List AV} {K : AV → List AV → Sto → Prop} {Q : Kt} {e : List AV} {s : Sto} (h : ent18 args K e s) : pcall Tryz.prog 18 args K Q e s := ent_ok (fun aa h => pf18 aa.1 aa.2) h
theorem eq18 {x : Sco} {t : Sco} {KK : AV → List AV → Sto → Prop} {ee : List AV} {ss : Sto} : ent18 [.d (.agg x.c), .d (.ptr t.c 0)] KK ee ss = (KK (.d (.i (beN x t))) ee ss) := by
  unfold ent18; rw [ent_iff (x, t) (by intro b h; simpa [Prod.ext_iff, and_assoc, Int.ofNat_inj, ints_inj, cals_inj, pcs_inj, skas_inj, scos_inj, ska_inj, rul_inj, sco_inj, cal_inj, ods_inj, od_inj, spns_inj] using h) rfl]; simp
def O17 : Nat → Sch := fun id => .done
theorem ho17 : Tryz.f17.body.map (okO O17) = some true := by kernel_rfl
def Cf17 : Nat → List AV → (AV → List AV → Sto → Prop) → Kt → List AV → Sto → Prop := fun f args K Q e s => match f with
  | 18 => ent18 args K e s
  | _ => False
def Ct17 : CT := { f := Cf17, y := noYld, z := fun d => false }
theorem Ct17_ok : Ct17.ok Tryz.prog := ok_of_f (fun f args K Q e s h => by
  have h : Cf17 f args K Q e s := h
  unfold Cf17 at h; split at h
  · exact ent18_ok h
  · exact h.elim) (fun _ _ _ _ _ _ _ _ _ h => h)
theorem x17_18 {x : Sco} {t : Sco} {KK : AV → List AV → Sto → Prop} {QQ : Kt} {ii : At KK} {jj : At QQ} {ee : List AV} {ss : Sto} : xC Ct17 18 [.d (.agg x.c), .d (.ptr t.c 0)] KK QQ ii jj ee ss = (KK (.d (.i (beN x t))) ee ss) := eq18
theorem c17 : callable Tryz.prog 17 = true := by kernel_rfl
theorem pf17 (l : List Sco) (t : Sco) (h : l.length ≤ 1000) : PF Tryz.prog 17 [.sl 4 (l.map Sco.c), .clo (.func 18) [] [.ptr t.c 0]] (fun zz => zz = .ret (.i (bC l t l.length))) := by
  have pb := bC_b (l := l) (t := t)
  have p0 : bC l t 0 = 0 := rfl
  have p1 : ∀ k, bC l t (k + 1) = bC l t k + beN (l.getD k default) t := fun k => rfl
  generalize bC l t = A at *
  refine PF_nil (PF_start (O := O17) Ct17_ok hmix ho17 Tryz.func17 c17 rfl Tryz.ntmps17 Tryz.results17 ?_)
  simp (maxSteps := 4000000) +contextual (disch := first | omega | exact qdb_ok (by kernel_rfl) | exact okb_ok (by kernel_rfl)) only [bw1,bw2,bw4,bw5,bw6,bc4,bc5,AV.isSlice,AV.rows,↓reduceIte,Nat.reduceAdd,Nat.reduceSub,List.reduceReplicate,tfb]
  refine loop_s (O := O17) (tb := 0) Ct17_ok hmix (by kernel_rfl) (σ := Nat) (fun i => [(4, .i (A i)), (6, .any), (9, .i i)]) (fun i => i ≤ l.length) (fun i => l.length - i) (fun i => i + 1) 0 (by omega) ?_ ?_
  · simp (maxSteps := 4000000) +contextual (disch := first | omega | exact qdb_ok (by kernel_rfl) | exact okb_ok (by kernel_rfl)) only [bw4,bw6,bc0,bc5,bc6,AV.isNilS,AV.isNoRows,wk,reduceCtorEq,p0]
  intro i hi
  by_cases hlt : i < l.length
  · have hlt' : (i : Int) < l.length := by omega
    have p1i := p1 i
    have pbi := pb (i + 1)
    have hwr : IntKind.i64.wrap (A i + beN (l.getD i default) t) = A i + beN (l.getD i default) t := wrap_ok (by omega) (by omega)
    simp (maxSteps := 4000000) +contextual (disch := first | omega | exact qdb_ok (by kernel_rfl) | exact okb_ok (by kernel_rfl)) only [bw1,bw2,bw3,bw4,bw5,bw6,bw7,bc0,bc1,bc2,bc3,bc4,bc5,bc6,AV.isNilS,AV.isNoRows,wk,binIs,idxV,AV.isSl,AV.rows,ps,pv,AV.dl,AV.cells?,AV.menc,AV.one,D.one,Value.oneCell',↓reduceIte,reduceCtorEq,Nat.reduceAdd,Nat.reduceLeDiff,Nat.reduceLT,tfb,x17_18,eq_self, hlt', p1i, hwr]
    and_intros <;> first | omega | rfl
  · have hlt' : ¬ (i : Int) < l.length := by omega
    obtain rfl : i = l.length := by omega
    simp (maxSteps := 4000000) +contextual (disch := first | omega | exact qdb_ok (by kernel_rfl) | exact okb_ok (by kernel_rfl)) only [bw1,bw2,bw3,bw5,bw6,bw7,bc0,bc1,bc2,bc3,bc4,bc5,bc6,binIs,AV.outs,AV.outF,packD,↓reduceIte,tfb,eq_self, hlt']
def ent17 (o : Option (List D)) (K : AV → List AV → Sto → Prop) (i : At K) (e : List AV) (s : Sto) : Prop := entS (α := (List Sco) × (Sco)) (fun aa => [.sl 4 (aa.1.map Sco.c), .clo (.func 18) [] [.ptr aa.2.c 0]]) (fun aa => aa.1.length ≤ 1000) (fun aa => .i (bC aa.1 aa.2 aa.1.length)) o K i e s
theorem ent17_ok {args : List AV} {K : AV → List AV → Sto → Prop} {Q : Kt} {e : List AV} {s : Sto} (h : ent17 (AV.outs s args) K (mk _) e s) : pcall Tryz.prog 17 args K Q e s := entS_ok (fun aa h => pf17 aa.1 aa.2 h) h
theorem eq17 {l : List Sco} {t : Sco} {KK : AV → List AV → Sto → Prop} {ii : At KK} {ee : List AV} {ss : Sto} : ent17 (some [.sl 4 (l.map Sco.c), .clo (.func 18) [] [.ptr t.c 0]]) KK ii ee ss = ((l.length ≤ 1000) ∧ (.i (bC l t l.length) : D).flat = true ∧ KK (.d (.i (bC l t l.length))) ee ss) := by
  unfold ent17; rw [entS_iff (l, t) (by intro b h; simpa [Prod.ext_iff, and_assoc, Int.ofNat_inj, ints_inj, cals_inj, pcs_inj, skas_inj, scos_inj, ska_inj, rul_inj, sco_inj, cal_inj, ods_inj, od_inj, spns_inj] using h)] <;> simp
def O6 : Nat → Sch := fun id => .done
theorem ho6 : Tryz.f6.body.map (okO O6) = some true := by kernel_rfl
def Cf6 : Nat → List AV → (AV → List AV → Sto → Prop) → Kt → List AV → Sto → Prop := fun f args K Q e s => match f with
  | 17 => ent17 (AV.outs s args) K (mk _) e s
  | _ => False
def Ct6 : CT := { f := Cf6, y := noYld, z := fun d => false }
theorem ctz6 {d : Nat} : CT.z Ct6 d = (false) := id rfl
theorem Ct6_ok : Ct6.ok Tryz.prog := ok_of_f (fun f args K Q e s h => by
  have h : Cf6 f args K Q e s := h
  unfold Cf6 at h; split at h
  · exact ent17_ok h
  · exact h.elim) (fun _ _ _ _ _ _ _ _ _ h => h)
theorem x6_17 {args : List AV} {KK : AV → List AV → Sto → Prop} {QQ : Kt} {ii : At KK} {jj : At QQ} {ee : List AV} {ss : Sto} : xC Ct6 17 args KK QQ ii jj ee ss = ent17 (AV.outs ss args) KK (mk _) ee ss := id rfl
theorem c6 : callable Tryz.prog 6 = true := by kernel_rfl
theorem pf6 (l : List Sco) (h : l.length ≤ 1000000) : PFn Tryz.prog 6 [.sl 4 (l.map Sco.c)] (fun zz => zz = .ret (.tup [.sl 1 ((rkG l).1.map ic), .i (rkG l).2])) := by
  by_cases c : (40 : Int) < l.length
  · have hw : rkG l = ([], 3) := by unfold rkG; rw [if_pos c]
    rw [hw]
    refine PFn_nil (PFn_start (O := O6) Ct6_ok hmix ho6 Tryz.func6 c6 rfl Tryz.ntmps6 Tryz.results6 ?_)
    simp (maxSteps := 4000000) +contextual (disch := first | omega | exact qdb_ok (by kernel_rfl) | exact okb_ok (by kernel_rfl)) only [bw1,bw2,bw3,bw4,bw5,bw6,bw7,bc1,bc2,bc3,bc4,bc5,bc6,binIs,AV.isSlice,AV.rows,packD,↓reduceIte,Nat.reduceSub,List.reduceReplicate,tfb,n_retr,AV.outN,D.flat,c]
  have hw : rkG l = (rkR l l.length, 0) := by unfold rkG; rw [if_neg c]
  rw [hw]
  have hl : l.length ≤ 1000 := by omega
  have k0 : rkR l 0 = [] := rfl
  have k1 := fun k => rkR_succ (l := l) (k := k)
  have kl := fun k => rkR_len (l := l) (k := k)
  have hb := fun t => bC_b (l := l) (t := t) l.length
  refine PFn_nil (PFn_start (O := O6) Ct6_ok hmix ho6 Tryz.func6 c6 rfl Tryz.ntmps6 Tryz.results6 ?_)
  simp (maxSteps := 4000000) +contextual (disch := first | omega | exact qdb_ok (by kernel_rfl) | exact okb_ok (by kernel_rfl)) only [bw1,bw2,bw4,bw5,bw6,bw7,bc1,bc4,bc5,bc6,binIs,AV.isSlice,AV.rows,↓reduceIte,Nat.reduceSub,List.reduceReplicate,tfb,c]
  refine seed (m1 := mk _) (m2 := mk _) 4 23 3 1 (by decide) rfl rfl (by simp [Sto.mens, AV.mens, AV.men]) rfl ?_
  refine loop_u (O := O6) (tb := 0) Ct6_ok hmix (by kernel_rfl) (σ := Nat) (fun k => [(4, .own 23 3 1 ((rkR l k).map ic)), (6, .any), (12, .i k)]) (fun k => []) (fun k => k ≤ l.length) (fun k => l.length - k) (fun k => k + 1) 0 (by omega) ?_ ?_
  · simp (maxSteps := 4000000) +contextual (disch := first | omega | exact qdb_ok (by kernel_rfl) | exact okb_ok (by kernel_rfl)) only [bw4,bw5,bw6,bc0,bc3,bc4,bc5,bc6,AV.isNilS,AV.isNoRows,wk,↓reduceIte,reduceCtorEq,eq_self, k0]
  intro k hk
  by_cases hlt : k < l.length
  · have hlt' : (k : Int) < l.length := by omega
    have k1k := k1 k
    have hbk := hb (l.getD k default)
    have hwr : IntKind.i64.wrap (1 + bC l (l.getD k default) l.length) = 1 + bC l (l.getD k default) l.length := wrap_ok (by omega) (by omega)
    simp (maxSteps := 4000000) +contextual (disch := first | omega | exact qdb_ok (by kernel_rfl) | exact okb_ok (by kernel_rfl)) only [bw1,bw2,bw3,bw4,bw5,bw6,bw7,bc0,bc1,bc2,bc3,bc4,bc5,bc6,AV.isNilS,AV.isNoRows,wk,binIs,idxV,AV.isSl,AV.rows,ps,pv,AV.outs,AV.outF,AV.dl,AV.cells?,AV.menc,AV.one,D.one,Value.oneCell',tagOf,AV.isApp,AV.dcells,D.cells?,↓reduceIte,reduceCtorEq,Nat.reduceAdd,Nat.reduceMul,List.reduceReplicate,Nat.reduceLeDiff,Nat.reduceLT,Nat.reduceBEq,Nat.reduceEqDiff,tfb,D.flat,ctz6,x6_17,eq17,eq_self, hlt', hwr, kl, hl]
    refine ⟨by omega, by omega, by omega, by omega, ?_⟩
    rw [k1k, List.map_append]; rfl
  have hlt' : ¬ (k : Int) < l.length := by omega
  obtain rfl : k = l.length := by omega
  simp (maxSteps := 4000000) +contextual (disch := first | omega | exact qdb_ok (by kernel_rfl) | exact okb_ok (by kernel_rfl)) only [bw1,bw2,bw3,bw5,bw6,bw7,bc0,bc1,bc2,bc3,bc4,bc5,bc6,binIs,packD,↓reduceIte,reduceCtorEq,tfb,n_retr,AV.outN,fl_ic,D.flat,eq_self, hlt']
def ent6 (args : List AV) (K : AV → List AV → Sto → Prop) (e : List AV) (s : Sto) : Prop := entn (α := (List Sco)) (fun aa => [.sl 4 (aa.map Sco.c)]) (fun aa => aa.length ≤ 1000000) (fun aa => .tup [.sl 1 ((rkG aa).1.map ic), .i (rkG aa).2]) args K e s
theorem ent6_ok {args : List AV} {K : AV → List AV → Sto → Prop} {Q : Kt} {e : List AV} {s : Sto} (h : ent6 args K e s) : pcall Tryz.prog 6 args K Q e s := entn_ok (fun aa h => pf6 aa h) h
theorem eq6 {l : List Sco} {KK : AV → List AV → Sto → Prop} {ee : List AV} {ss : Sto} : ent6 [.d (.sl 4 (l.map Sco.c))] KK ee ss = ((l.length ≤ 1000000) ∧ KK (.d (.tup [.sl 1 ((rkG l).1.map ic), .i (rkG l).2])) ee ss) := by
  unfold ent6; rw [entn_iff l (by intro b h; simpa [Prod.ext_iff, and_assoc, Int.ofNat_inj, ints_inj, cals_inj, pcs_inj, skas_inj, scos_inj, ska_inj, rul_inj, sco_inj, cal_inj, ods_inj, od_inj, spns_inj] using h) rfl] <;> simp
end Go.Proofs.YtapglfcaghlpfaaGreat
