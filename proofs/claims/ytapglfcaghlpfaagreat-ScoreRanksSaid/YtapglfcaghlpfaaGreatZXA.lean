/- A part of the proof that the last text ends: what functions of the program do, told by plain data. -/
import Derived.Test.YtapglfcaghlpfaaGreatZWD
import Derived.Test.YtapglfcaghlpfaaGreatZVL
import Derived.Test.YtapglfcaghlpfaaGreatZVJ
set_option linter.unusedVariables false
set_option linter.unusedSimpArgs false
namespace Go.Proofs.YtapglfcaghlpfaaGreat
open Go Go.E Go.Maps
set_option maxRecDepth 100000
set_option maxHeartbeats 16000000
def O7 : Nat → Sch := fun id => if id = 11 then .one 0 (.one 1 (.one 2 (.one 3 (.one 4 (.one 5 (.one 6 (.one 7 (.one 8 (.done))))))))) else .done
theorem O7_11 : O7 11 = .one 0 (.one 1 (.one 2 (.one 3 (.one 4 (.one 5 (.one 6 (.one 7 (.one 8 (.done))))))))) := rfl
theorem ho7 : Tryz.f7.body.map (okO O7) = some true := by kernel_rfl
def Cf7 : Nat → List AV → (AV → List AV → Sto → Prop) → Kt → List AV → Sto → Prop := fun f args K Q e s => match f with
  | 20 => ent20 args K e s
  | _ => False
def Ct7 : CT := { f := Cf7, y := noYld, z := fun d => false }
theorem ctz7 {d : Nat} : CT.z Ct7 d = (false) := id rfl
theorem Ct7_ok : Ct7.ok Tryz.prog := ok_of_f (fun f args K Q e s h => by
  have h : Cf7 f args K Q e s := h
  unfold Cf7 at h; split at h
  · exact ent20_ok h
  · exact h.elim) (fun _ _ _ _ _ _ _ _ _ h => h)
theorem x7_20 {a : Sco} {b : Sco} {KK : AV → List AV → Sto → Prop} {QQ : Kt} {ii : At KK} {jj : At QQ} {ee : List AV} {ss : Sto} : xC Ct7 20 [.d (.agg a.c), .d (.agg b.c)] KK QQ ii jj ee ss = (KK (.d (.b (better a b))) ee ss) := eq20
theorem c7 : callable Tryz.prog 7 = true := by kernel_rfl
theorem pf7 (l : List Sco) (h : l.length ≤ 1000000) : PF Tryz.prog 7 [.sl 4 (l.map Sco.c)] (fun zz => zz = .ret (.tup [.sl 1 ((rkG l).1.map ic), .i (rkG l).2])) := by
  by_cases c : (40 : Int) < l.length
  · have hw : rkG l = ([], 3) := by unfold rkG; rw [if_pos c]
    rw [hw]
    refine PF_nil (PF_start (O := O7) Ct7_ok hmix ho7 Tryz.func7 c7 rfl Tryz.ntmps7 Tryz.results7 ?_)
    simp (maxSteps := 4000000) +contextual (disch := first | omega | exact qdb_ok (by kernel_rfl) | exact okb_ok (by kernel_rfl)) only [bw1,bw2,bw3,bw4,bw5,bw6,bw7,bc1,bc2,bc3,bc4,bc5,bc6,binIs,AV.isSlice,AV.rows,AV.outs,AV.outF,packD,↓reduceIte,Nat.reduceSub,List.reduceReplicate,tfb,c]
    try rfl
  have hw : rkG l = (rkR l l.length, 0) := by unfold rkG; rw [if_neg c]
  rw [hw]
  have hl : l.length ≤ 40 := by omega
  have k0 : rkR l 0 = [] := rfl
  refine PF_nil (PF_start (O := O7) Ct7_ok hmix ho7 Tryz.func7 c7 rfl Tryz.ntmps7 Tryz.results7 ?_)
  simp (maxSteps := 4000000) +contextual (disch := first | omega | exact qdb_ok (by kernel_rfl) | exact okb_ok (by kernel_rfl)) only [bw1,bw2,bw4,bw5,bw6,bw7,bc1,bc4,bc5,bc6,binIs,AV.isSlice,AV.rows,↓reduceIte,Nat.reduceSub,List.reduceReplicate,tfb,c]
  refine seed (m1 := mk _) (m2 := mk _) 4 38 3 1 (by decide) rfl rfl (by simp [Sto.mens, AV.mens, AV.men]) rfl ?_
  refine loop_xu (O := O7) (tb := 0) Ct7_ok hmix (by kernel_rfl) (σ := Nat) (fun k => [(4, .own 38 3 1 ((rkR l k).map ic)), (5, .i k), (6, .any), (7, .any)]) (fun _ => []) (fun k => k ≤ l.length) (fun k => l.length - k) 0 (Nat.zero_le _) ?_ ?_
  · simp (maxSteps := 4000000) +contextual (disch := first | omega | exact qdb_ok (by kernel_rfl) | exact okb_ok (by kernel_rfl)) only [bw4,bw5,bw6,bc0,bc3,bc4,bc5,bc6,AV.isNilS,AV.isNoRows,wk,↓reduceIte,reduceCtorEq,eq_self, k0]
    try rfl
  intro k hk
  have hkk : (0 : Int) ≤ k := by omega
  have hkl := rkR_len (l := l) (k := k)
  by_cases hlt : k < l.length
  case neg =>
    have hlt' : ¬ (k : Int) < l.length := by omega
    obtain rfl : k = l.length := by omega
    simp (maxSteps := 4000000) +contextual (disch := first | omega | exact qdb_ok (by kernel_rfl) | exact okb_ok (by kernel_rfl)) only [bw1,bw2,bw3,bw4,bw5,bw6,bw7,bc0,bc1,bc2,bc3,bc4,bc5,bc6,binIs,AV.isSlice,AV.rows,AV.outs,AV.outF,packD,↓reduceIte,reduceCtorEq,tfb,eq_self, hlt']
    done
  have hlt' : (k : Int) < l.length := by omega
  have hrk : (l.map Sco.c).getD k [] = Sco.c (l.getD k default) := Go.E.row_at hlt
  simp (maxSteps := 4000000) +contextual (disch := first | omega | exact qdb_ok (by kernel_rfl) | exact okb_ok (by kernel_rfl)) only [bw1,bw2,bw4,bw5,bw6,bw7,bc0,bc1,bc4,bc5,bc6,binIs,AV.isSlice,AV.rows,↓reduceIte,tfb,eq_self, hlt']
  refine loop_xu (O := O7) (tb := 0) Ct7_ok hmix (by kernel_rfl) (σ := Nat) (fun m => [(6, .i (1 + bC l (l.getD k default) m)), (7, .i m)]) (fun _ => []) (fun m => m ≤ l.length) (fun m => l.length - m) 0 (Nat.zero_le _) ?_ ?_
  · have hb0 : 1 + bC l (l.getD k default) 0 = 1 := rfl
    simp (maxSteps := 4000000) +contextual (disch := first | omega | exact qdb_ok (by kernel_rfl) | exact okb_ok (by kernel_rfl)) only [bw4,bw5,bw6,bc0,bc3,bc5,bc6,AV.isNilS,AV.isNoRows,wk,↓reduceIte,reduceCtorEq,eq_self, hb0]
  intro m hm
  have hmm : (0 : Int) ≤ m := by omega
  have hbm := bC_b (l := l) (t := l.getD k default) m
  by_cases hmt : m < l.length
  case neg =>
    have hmt' : ¬ (m : Int) < l.length := by omega
    obtain rfl : m = l.length := by omega
    simp (maxSteps := 4000000) +contextual (disch := first | omega | exact qdb_ok (by kernel_rfl) | exact okb_ok (by kernel_rfl)) only [bw1,bw2,bw4,bw5,bw6,bw7,bc0,bc1,bc3,bc4,bc5,bc6,AV.isNilS,AV.isNoRows,wk,binIs,AV.isSl,AV.isSlice,AV.rows,D.one,Value.oneCell',tagOf,AV.isApp,AV.dcells,D.cells?,↓reduceIte,reduceCtorEq,Nat.reduceAdd,Nat.reduceMul,List.reduceReplicate,Nat.reduceLeDiff,Nat.reduceLT,Nat.reduceBEq,tfb,ctz7,eq_self, hmt', hkl]
    exact ⟨by omega, by omega, k + 1, ⟨by omega, by omega⟩, by rw [rkR_succ, List.map_append]; rfl, rfl⟩
  have hmt' : (m : Int) < l.length := by omega
  have hrm : (l.map Sco.c).getD m [] = Sco.c (l.getD m default) := Go.E.row_at hmt
  have hbs : bC l (l.getD k default) (m + 1) = bC l (l.getD k default) m + beN (l.getD m default) (l.getD k default) := rfl
  by_cases hbe : better (l.getD m default) (l.getD k default) = true
  · have hb1 : beN (l.getD m default) (l.getD k default) = 1 := by unfold beN; rw [if_pos hbe]
    simp (maxSteps := 4000000) +contextual (disch := first | omega | exact qdb_ok (by kernel_rfl) | exact okb_ok (by kernel_rfl)) only [bw1,bw2,bw3,bw4,bw5,bw6,bw7,bc0,bc1,bc2,bc3,bc4,bc5,bc6,AV.isNilS,AV.isNoRows,wk,binIs,idxV,AV.isSl,AV.isSlice,AV.rows,ps,pv,↓reduceIte,reduceCtorEq,Nat.reduceAdd,Nat.reduceLeDiff,tfb,O7_11,x7_20,eq_self, hlt', hmt', hrk, hrm, hkk, hmm, hbe]
    exact ⟨m + 1, ⟨by omega, by omega⟩, by rw [hbs, hb1, show 1 + (bC l (l.getD k default) m + 1) = 1 + bC l (l.getD k default) m + 1 by omega], rfl⟩
  · have hb1 : beN (l.getD m default) (l.getD k default) = 0 := by unfold beN; rw [if_neg hbe]
    simp (maxSteps := 4000000) +contextual (disch := first | omega | exact qdb_ok (by kernel_rfl) | exact okb_ok (by kernel_rfl)) only [bw1,bw2,bw3,bw4,bw5,bw6,bw7,bc0,bc1,bc2,bc3,bc4,bc5,bc6,AV.isNilS,AV.isNoRows,wk,binIs,idxV,AV.isSl,AV.isSlice,AV.rows,ps,pv,↓reduceIte,reduceCtorEq,Nat.reduceAdd,Nat.reduceLeDiff,tfb,O7_11,x7_20,eq_self, hlt', hmt', hrk, hrm, hkk, hmm, hbe]
    exact ⟨m + 1, ⟨by omega, by omega⟩, by rw [hbs, hb1, Int.add_zero], rfl⟩
def spL (W B : List Sco) (n k : Nat) : List Spn := (List.range k).map fun i => spn W B i n
theorem spL_succ {W B : List Sco} {n k : Nat} : spL W B n (k + 1) = spL W B n k ++ [spn W B k n] := by
  unfold spL; rw [List.range_succ, List.map_append]; rfl
theorem spL_len {W B : List Sco} {n k : Nat} : (spL W B n k).length = k := by unfold spL; rw [List.length_map, List.length_range]
theorem cLo_s {W B : List Sco} {i k : Nat} : cLo W B i (k + 1) = cLo W B i k + if k ≠ i ∧ better (W.getD k default) (B.getD i default) = true then 1 else 0 := rfl
def ent7 (args : List AV) (K : AV → List AV → Sto → Prop) (e : List AV) (s : Sto) : Prop := ent (α := (List Sco)) (fun aa => [.sl 4 (aa.map Sco.c)]) (fun aa => aa.length ≤ 1000000) (fun aa => .tup [.sl 1 ((rkG aa).1.map ic), .i (rkG aa).2]) args K e s
theorem ent7_ok {args : List AV} {K : AV → List AV → Sto → Prop} {Q : Kt} {e : List AV} {s : Sto} (h : ent7 args K e s) : pcall Tryz.prog 7 args K Q e s := ent_ok (fun aa h => pf7 aa h) h
theorem eq7 {l : List Sco} {KK : AV → List AV → Sto → Prop} {ee : List AV} {ss : Sto} : ent7 [.d (.sl 4 (l.map Sco.c))] KK ee ss = ((l.length ≤ 1000000) ∧ KK (.d (.tup [.sl 1 ((rkG l).1.map ic), .i (rkG l).2])) ee ss) := by
  unfold ent7; rw [ent_iff l (by intro b h; simpa [Prod.ext_iff, and_assoc, Int.ofNat_inj, ints_inj, cals_inj, pcs_inj, skas_inj, scos_inj, ska_inj, rul_inj, sco_inj, cal_inj, ods_inj, od_inj, spns_inj, Int.ofNat_inj, ints_inj, cals_inj, pcs_inj, skas_inj, scos_inj, ska_inj, rul_inj, sco_inj, cal_inj, ods_inj, od_inj, spns_inj, Int.ofNat_inj, ints_inj, cals_inj, pcs_inj, skas_inj, scos_inj, ska_inj, rul_inj, sco_inj, cal_inj, Int.ofNat_inj, ints_inj, cals_inj, pcs_inj, skas_inj, scos_inj, ska_inj, rul_inj, sco_inj, cal_inj, ods_inj, od_inj, spns_inj, Int.ofNat_inj, ints_inj, cals_inj, pcs_inj, skas_inj, scos_inj, ska_inj, rul_inj, sco_inj, cal_inj, ods_inj, od_inj, spns_inj, Int.ofNat_inj, ints_inj, cals_inj, pcs_inj, skas_inj, scos_inj, ska_inj, rul_inj, sco_inj, cal_inj, ods_inj, od_inj, spns_inj, Int.ofNat_inj, ints_inj, cals_inj, pcs_inj, skas_inj, scos_inj, ska_inj, rul_inj, sco_inj, cal_inj] using h) rfl]; simp
def O28 : Nat → Sch := fun id => if id = 5 then .one 0 (.one 2 (.one 3 (.one 4 (.one 5 (.one 6 (.alt (.one 1 (.one 7 (.one 8 (.one 9 (.one 10 (.one 11 (.done))))))) (.one 7 (.one 1 (.one 8 (.one 9 (.one 10 (.one 11 (.done))))))))))))) else if id = 6 then .one 0 (.one 2 (.one 3 (.one 4 (.one 5 (.one 6 (.alt (.one 1 (.one 7 (.one 8 (.one 9 (.one 10 (.one 11 (.done))))))) (.one 7 (.one 1 (.one 8 (.one 9 (.one 10 (.one 11 (.done))))))))))))) else if id = 15 then .one 0 (.one 1 (.one 2 (.one 3 (.one 4 (.one 5 (.one 6 (.one 7 (.one 8 (.one 9 (.one 10 (.one 11 (.one 12 (.one 13 (.done)))))))))))))) else if id = 17 then .one 0 (.one 1 (.one 2 (.one 3 (.one 4 (.one 5 (.one 6 (.one 7 (.one 8 (.one 9 (.one 10 (.one 11 (.one 12 (.one 13 (.done)))))))))))))) else .done
theorem O28_5 : O28 5 = .one 0 (.one 2 (.one 3 (.one 4 (.one 5 (.one 6 (.alt (.one 1 (.one 7 (.one 8 (.one 9 (.one 10 (.one 11 (.done))))))) (.one 7 (.one 1 (.one 8 (.one 9 (.one 10 (.one 11 (.done))))))))))))) := rfl
theorem O28_6 : O28 6 = .one 0 (.one 2 (.one 3 (.one 4 (.one 5 (.one 6 (.alt (.one 1 (.one 7 (.one 8 (.one 9 (.one 10 (.one 11 (.done))))))) (.one 7 (.one 1 (.one 8 (.one 9 (.one 10 (.one 11 (.done))))))))))))) := rfl
theorem O28_15 : O28 15 = .one 0 (.one 1 (.one 2 (.one 3 (.one 4 (.one 5 (.one 6 (.one 7 (.one 8 (.one 9 (.one 10 (.one 11 (.one 12 (.one 13 (.done)))))))))))))) := rfl
theorem O28_17 : O28 17 = .one 0 (.one 1 (.one 2 (.one 3 (.one 4 (.one 5 (.one 6 (.one 7 (.one 8 (.one 9 (.one 10 (.one 11 (.one 12 (.one 13 (.done)))))))))))))) := rfl
theorem ho28 : Tryz.f28.body.map (okO O28) = some true := by kernel_rfl
def Cf28 : Nat → List AV → (AV → List AV → Sto → Prop) → Kt → List AV → Sto → Prop := fun f args K Q e s => match f with
  | 20 => ent20 args K e s
  | 37 => ent37 args K e s
  | 38 => ent38 args K e s
  | _ => False
def Ct28 : CT := { f := Cf28, y := noYld, z := fun d => false }
theorem ctz28 {d : Nat} : CT.z Ct28 d = (false) := id rfl
theorem Ct28_ok : Ct28.ok Tryz.prog := ok_of_f (fun f args K Q e s h => by
  have h : Cf28 f args K Q e s := h
  unfold Cf28 at h; split at h
  · exact ent20_ok h
  · exact ent37_ok h
  · exact ent38_ok h
  · exact h.elim) (fun _ _ _ _ _ _ _ _ _ h => h)
theorem x28_20 {a : Sco} {b : Sco} {KK : AV → List AV → Sto → Prop} {QQ : Kt} {ii : At KK} {jj : At QQ} {ee : List AV} {ss : Sto} : xC Ct28 20 [.d (.agg a.c), .d (.agg b.c)] KK QQ ii jj ee ss = (KK (.d (.b (better a b))) ee ss) := eq20
theorem x28_37 {r : Rul} {s : Ska} {KK : AV → List AV → Sto → Prop} {QQ : Kt} {ii : At KK} {jj : At QQ} {ee : List AV} {ss : Sto} : xC Ct28 37 [.d (r.d), .d (.agg s.c)] KK QQ ii jj ee ss = ((∃ n, Valid r s n) ∧ KK (.d (.agg (progR r s).c)) ee ss) := eq37
theorem x28_38 {s : Ska} {j : Nat} {g : Int} {q : Int} {KK : AV → List AV → Sto → Prop} {QQ : Kt} {ii : At KK} {jj : At QQ} {ee : List AV} {ss : Sto} : xC Ct28 38 [.d (.agg s.c), .d (.i (j : Int)), .d (.i g), .d (.i q)] KK QQ ii jj ee ss = (((s.calls.length ≤ 1000 ∧ s.parts.length ≤ 1000) ∧ (∀ c ∈ s.calls, j < c.marks.length ∧ c.marks.length ≤ 1000) ∧ ∀ p ∈ s.parts, j < p.length ∧ p.length ≤ 1000) ∧ KK (.d (.agg (givR s j g q).c)) ee ss) := eq38
theorem c28 : callable Tryz.prog 28 = true := by kernel_rfl
theorem pf28 (r : Rul) (l : List Ska) (j : Nat) (h : l.length ≤ 1000 ∧ ∀ s ∈ l, VG r j s) : PF Tryz.prog 28 [r.d, .sl 3 (l.map Ska.c), .i (j : Int)] (fun zz => zz = .ret (.sl 2 ((swR r l j).map Spn.c))) := by
  obtain ⟨hl1, hvg⟩ := h
  have w0 : ∀ g q, wkN r l j g q 0 = [] := fun g q => rfl
  have w1 : ∀ g q k, k < l.length → wkN r l j g q (k + 1) = wkN r l j g q k ++ [progR r (givR (l.getD k default) j g q)] := fun g q k h => wkN_succ h
  have wl : ∀ g q k, k ≤ l.length → (wkN r l j g q k).length = k := fun g q k h => wkN_len h
  refine PF_nil (PF_start (O := O28) Ct28_ok hmix ho28 Tryz.func28 c28 rfl Tryz.ntmps28 Tryz.results28 ?_)
  simp (maxSteps := 4000000) +contextual (disch := first | omega | exact qdb_ok (by kernel_rfl) | exact okb_ok (by kernel_rfl)) only [bw1,bw2,bw5,bw6,bc3,bc4,bc5,bc6,AV.cells?,↓reduceIte,reduceCtorEq,Nat.reduceAdd,Nat.reduceSub,List.reduceReplicate,Nat.reduceLT,Int.reduceNeg]
  refine seed (m1 := mk _) (m2 := mk _) 7 31 48 4 (by decide) rfl rfl (by simp [Sto.mens, AV.mens, AV.men]) rfl ?_
  simp (maxSteps := 4000000) +contextual (disch := first | omega | exact qdb_ok (by kernel_rfl) | exact okb_ok (by kernel_rfl)) only [bw6,Int.reduceNeg]
  refine seed (m1 := mk _) (m2 := mk _) 8 42 48 4 (by decide) rfl rfl (by simp [Sto.mens, AV.mens, AV.men]) rfl ?_
  simp (maxSteps := 4000000) +contextual (disch := first | omega | exact qdb_ok (by kernel_rfl) | exact okb_ok (by kernel_rfl)) only [bw6,Int.reduceNeg]
  refine loop_xu (O := O28) (tb := 0) Ct28_ok hmix (by kernel_rfl) (σ := Nat) (fun k => [(7, .own 31 48 4 ((wkN r l j (-5) 0 k).map Sco.c)), (8, .own 42 48 4 ((wkN r l j 5 40 k).map Sco.c)), (9, .i k)]) (fun _ => []) (fun k => k ≤ l.length) (fun k => l.length - k) 0 (Nat.zero_le _) ?_ ?_
  · simp (maxSteps := 4000000) +contextual (disch := first | omega | exact qdb_ok (by kernel_rfl) | exact okb_ok (by kernel_rfl)) only [bw4,bw5,bw6,bc0,bc3,bc4,bc5,bc6,AV.isNilS,AV.isNoRows,wk,↓reduceIte,reduceCtorEq,Int.reduceNeg,eq_self, w0]
    try rfl
  intro k hk
  have hkk : (0 : Int) ≤ k := by omega
  by_cases hlt : k < l.length
  · have hlt' : (k : Int) < l.length := by omega
    have w1a := w1 (-5) 0 k hlt
    have w1b := w1 5 40 k hlt
    have wla := wl (-5) 0 k hk
    have wlb := wl 5 40 k hk
    have hv := hvg (l.getD k default) (by rw [at_lt hlt]; exact List.getElem_mem _)
    have hka := (vk_set hv.vk (j := j) (g := -5) (q := 0) (by omega) (by omega)).val
    have hkb := (vk_set hv.vk (j := j) (g := 5) (q := 40) (by omega) (by omega)).val
    have hc1 := hv.vk.vs.len
    have hc2 := hv.vk.parts
    have hcl : (l.getD k default).calls.length ≤ 1000 := by omega
    have hpl : (l.getD k default).parts.length ≤ 1000 := by omega
    have hpr : ((l.getD k default).calls.length ≤ 1000 ∧ (l.getD k default).parts.length ≤ 1000) ∧ (∀ c ∈ (l.getD k default).calls, j < c.marks.length ∧ c.marks.length ≤ 1000) ∧ ∀ p ∈ (l.getD k default).parts, j < p.length ∧ p.length ≤ 1000 := ⟨⟨hcl, hpl⟩, hv.call, hv.part⟩
    have hrk : (l.map Ska.c).getD k [] = Ska.c (l.getD k default) := Go.E.row_at hlt
    simp (maxSteps := 4000000) +contextual (disch := first | omega | exact qdb_ok (by kernel_rfl) | exact okb_ok (by kernel_rfl)) only [bw1,bw2,bw3,bw4,bw5,bw6,bw7,bc0,bc1,bc2,bc3,bc4,bc5,bc6,AV.isNilS,AV.isNoRows,wk,binIs,idxV,AV.isSl,AV.isSlice,AV.rows,ps,pv,AV.dl,D.one,Value.oneCell',tagOf,AV.isApp,AV.dcells,D.cells?,↓reduceIte,reduceCtorEq,Nat.reduceAdd,Nat.reduceMul,List.reduceReplicate,Nat.reduceLeDiff,Nat.reduceLT,Nat.reduceBEq,Nat.reduceEqDiff,Int.reduceNeg,tfb,ctz28,O28_5,O28_6,x28_37,x28_38,eq_self, hlt', hkk, hrk, wla, wlb, hka, hkb, hpr]
    exact ⟨⟨fun _ _ => trivial, fun _ _ => trivial⟩, by omega, by omega, ⟨fun _ _ => trivial, fun _ _ => trivial⟩, by omega, by omega, k + 1, ⟨by omega, by omega⟩, by rw [w1a, List.map_append]; rfl, by rw [w1b, List.map_append]; rfl, rfl⟩
  have hlt' : ¬ (k : Int) < l.length := by omega
  obtain rfl : k = l.length := by omega
  have hfin : swR r l j = spL (wkN r l j (-5) 0 l.length) (wkN r l j 5 40 l.length) l.length l.length := by
    unfold swR spL wkN; rw [List.take_length]
  have hWl := wl (-5) 0 l.length (Nat.le_refl _)
  have hBl := wl 5 40 l.length (Nat.le_refl _)
  rw [hfin]
  clear hfin w0 w1 wl hlt hk hvg
  obtain ⟨W, hW⟩ : ∃ W, wkN r l j (-5) 0 l.length = W := ⟨_, rfl⟩
  obtain ⟨B, hB⟩ : ∃ B, wkN r l j 5 40 l.length = B := ⟨_, rfl⟩
  rw [hW] at hWl ⊢
  rw [hB] at hBl ⊢
  simp (maxSteps := 4000000) +contextual (disch := first | omega | exact qdb_ok (by kernel_rfl) | exact okb_ok (by kernel_rfl)) only [bw1,bw2,bw4,bw5,bw6,bw7,bc0,bc1,bc4,bc5,bc6,binIs,AV.isSlice,AV.rows,↓reduceIte,Int.reduceNeg,tfb,eq_self, hlt']
  refine seed (m1 := mk _) (m2 := mk _) 10 95 54 2 (by decide) rfl rfl (by simp [Sto.mens, AV.mens, AV.men]) rfl ?_
  simp (maxSteps := 4000000) +contextual (disch := first | omega | exact qdb_ok (by kernel_rfl) | exact okb_ok (by kernel_rfl)) only [bw6]
  refine loop_xu (O := O28) (tb := 0) Ct28_ok hmix (by kernel_rfl) (σ := Nat) (fun i => [(10, .own 95 54 2 ((spL W B l.length i).map Spn.c)), (11, .i i), (12, .any), (13, .any)]) (fun _ => []) (fun i => i ≤ l.length) (fun i => l.length - i) 0 (Nat.zero_le _) ?_ ?_
  · have s0 : spL W B l.length 0 = [] := rfl
    simp (maxSteps := 4000000) +contextual (disch := first | omega | exact qdb_ok (by kernel_rfl) | exact okb_ok (by kernel_rfl)) only [bw4,bw5,bw6,bc0,bc3,bc4,bc5,bc6,AV.isNilS,AV.isNoRows,wk,↓reduceIte,reduceCtorEq,eq_self, s0]
    try rfl
  intro i hi
  have hii : (0 : Int) ≤ i := by omega
  have hsl := spL_len (W := W) (B := B) (n := l.length) (k := i)
  by_cases hit : i < l.length
  case neg =>
    have hit' : ¬ (i : Int) < l.length := by omega
    obtain rfl : i = l.length := by omega
    simp (maxSteps := 4000000) +contextual (disch := first | omega | exact qdb_ok (by kernel_rfl) | exact okb_ok (by kernel_rfl)) only [bw1,bw2,bw3,bw4,bw5,bw6,bw7,bc0,bc1,bc2,bc3,bc4,bc5,bc6,binIs,AV.isSlice,AV.rows,AV.outs,AV.outF,packD,↓reduceIte,reduceCtorEq,tfb,eq_self, hit']
    try rfl
  have hit' : (i : Int) < l.length := by omega
  have hiW : (i : Int) < W.length := by omega
  have hiB : (i : Int) < B.length := by omega
  have hri : (W.map Sco.c).getD i [] = Sco.c (W.getD i default) := Go.E.row_at (by omega)
  have hrib : (B.map Sco.c).getD i [] = Sco.c (B.getD i default) := Go.E.row_at (by omega)
  simp (maxSteps := 4000000) +contextual (disch := first | omega | exact qdb_ok (by kernel_rfl) | exact okb_ok (by kernel_rfl)) only [bw1,bw2,bw4,bw5,bw6,bw7,bc0,bc1,bc2,bc3,bc4,bc5,bc6,binIs,AV.isSlice,AV.rows,ps,pv,AV.dl,AV.cells?,AV.menc,AV.one,D.one,Value.oneCell',↓reduceIte,reduceCtorEq,Nat.reduceAdd,Nat.reduceLeDiff,Nat.reduceLT,Nat.reduceBEq,Nat.reduceEqDiff,tfb,eq_self, hit']
  refine loop_xu (O := O28) (tb := 0) Ct28_ok hmix (by kernel_rfl) (σ := Nat) (fun k => [(13, .i k)]) (fun k => [(13, [.i (cLo W B i k), .i (cLo B W i k)])]) (fun k => k ≤ l.length) (fun k => l.length - k) 0 (Nat.zero_le _) ?_ ?_
  · have c0 : cLo W B i 0 = 1 := rfl
    have c1 : cLo B W i 0 = 1 := rfl
    simp (maxSteps := 4000000) +contextual (disch := first | omega | exact qdb_ok (by kernel_rfl) | exact okb_ok (by kernel_rfl)) only [bw4,bw5,bw6,bc0,bc3,bc5,bc6,AV.isNilS,AV.isNoRows,wk,↓reduceIte,reduceCtorEq,Nat.reduceEqDiff,eq_self, c0, c1]
    try rfl
  intro k hk
  have hkk : (0 : Int) ≤ k := by omega
  by_cases hkt : k < l.length
  case neg =>
    have hkt' : ¬ (k : Int) < l.length := by omega
    obtain rfl : k = l.length := by omega
    simp (maxSteps := 4000000) +contextual (disch := first | omega | exact qdb_ok (by kernel_rfl) | exact okb_ok (by kernel_rfl)) only [bw1,bw2,bw4,bw5,bw6,bw7,bc0,bc1,bc2,bc3,bc4,bc5,bc6,AV.isNilS,AV.isNoRows,wk,binIs,AV.isSl,AV.isSlice,AV.rows,AV.dl,D.one,Value.oneCell',tagOf,AV.isApp,AV.dcells,D.cells?,↓reduceIte,reduceCtorEq,Nat.reduceAdd,Nat.reduceMul,List.reduceReplicate,Nat.reduceLeDiff,Nat.reduceLT,Nat.reduceBEq,Nat.reduceEqDiff,tfb,ctz28,eq_self, hkt', hsl]
    exact ⟨by omega, by omega, i + 1, ⟨by omega, by omega⟩, by rw [spL_succ, List.map_append]; rfl, rfl⟩
  have hkt' : (k : Int) < l.length := by omega
  have hla := cLo_s (W := W) (B := B) (i := i) (k := k)
  have hlb := cLo_s (W := B) (B := W) (i := i) (k := k)
  have ha := cLo_b W B i k
  have hb := cLo_b B W i k
  by_cases hki : k = i
  · have hne : ((k : Int) != (i : Int)) = false := by rw [hki]; exact bne_self_eq_false _
    rw [if_neg (fun h => h.1 hki), Int.add_zero] at hla hlb
    simp (maxSteps := 4000000) +contextual (disch := first | omega | exact qdb_ok (by kernel_rfl) | exact okb_ok (by kernel_rfl)) only [bw1,bw2,bw3,bw4,bw5,bw6,bw7,bc0,bc1,bc3,bc4,bc5,bc6,AV.isNilS,AV.isNoRows,wk,binIs,AV.isSlice,AV.rows,↓reduceIte,reduceCtorEq,Nat.reduceEqDiff,tfb,O28_15,O28_17,eq_self, hkt', hne]
    exact ⟨k + 1, ⟨by omega, by omega⟩, rfl, by rw [hla, hlb]; exact ⟨rfl, rfl⟩⟩
  have hne : ((k : Int) != (i : Int)) = true := by rw [bne_iff_ne]; omega
  have hkW : (k : Int) < W.length := by omega
  have hkB : (k : Int) < B.length := by omega
  have hrk : (W.map Sco.c).getD k [] = Sco.c (W.getD k default) := Go.E.row_at (by omega)
  have hrkb : (B.map Sco.c).getD k [] = Sco.c (B.getD k default) := Go.E.row_at (by omega)
  by_cases b1 : better (W.getD k default) (B.getD i default) = true
  · rw [if_pos ⟨hki, b1⟩] at hla
    by_cases b2 : better (B.getD k default) (W.getD i default) = true
    · rw [if_pos ⟨hki, b2⟩] at hlb
      simp (maxSteps := 4000000) +contextual (disch := first | omega | exact qdb_ok (by kernel_rfl) | exact okb_ok (by kernel_rfl)) only [bw1,bw2,bw3,bw4,bw5,bw6,bw7,bc0,bc1,bc2,bc3,bc4,bc5,bc6,AV.isNilS,AV.isNoRows,wk,binIs,addF,AV.isPtr,idxV,AV.isSl,AV.isSlice,AV.rows,ps,pv,AV.cells?,AV.menc,AV.one,D.one,Value.oneCell',↓reduceIte,reduceCtorEq,Nat.reduceAdd,Nat.reduceLeDiff,Nat.reduceBEq,Nat.reduceEqDiff,tfb,O28_15,O28_17,x28_20,eq_self, hkt', hne, hkk, hii, hkW, hkB, hiW, hiB, hri, hrib, hrk, hrkb, b1, b2]
      exact ⟨k + 1, ⟨by omega, by omega⟩, rfl, by rw [hla, hlb]; exact ⟨rfl, rfl⟩⟩
    · rw [if_neg (fun h => b2 h.2), Int.add_zero] at hlb
      simp (maxSteps := 4000000) +contextual (disch := first | omega | exact qdb_ok (by kernel_rfl) | exact okb_ok (by kernel_rfl)) only [bw1,bw2,bw3,bw4,bw5,bw6,bw7,bc0,bc1,bc2,bc3,bc4,bc5,bc6,AV.isNilS,AV.isNoRows,wk,binIs,addF,AV.isPtr,idxV,AV.isSl,AV.isSlice,AV.rows,ps,pv,AV.cells?,AV.menc,AV.one,D.one,Value.oneCell',↓reduceIte,reduceCtorEq,Nat.reduceAdd,Nat.reduceLeDiff,Nat.reduceBEq,Nat.reduceEqDiff,tfb,O28_15,O28_17,x28_20,eq_self, hkt', hne, hkk, hii, hkW, hkB, hiW, hiB, hri, hrib, hrk, hrkb, b1, b2]
      exact ⟨k + 1, ⟨by omega, by omega⟩, rfl, by rw [hla, hlb]; exact ⟨rfl, rfl⟩⟩
  · rw [if_neg (fun h => b1 h.2), Int.add_zero] at hla
    by_cases b2 : better (B.getD k default) (W.getD i default) = true
    · rw [if_pos ⟨hki, b2⟩] at hlb
      simp (maxSteps := 4000000) +contextual (disch := first | omega | exact qdb_ok (by kernel_rfl) | exact okb_ok (by kernel_rfl)) only [bw1,bw2,bw3,bw4,bw5,bw6,bw7,bc0,bc1,bc2,bc3,bc4,bc5,bc6,AV.isNilS,AV.isNoRows,wk,binIs,addF,AV.isPtr,idxV,AV.isSl,AV.isSlice,AV.rows,ps,pv,AV.cells?,AV.menc,AV.one,D.one,Value.oneCell',↓reduceIte,reduceCtorEq,Nat.reduceAdd,Nat.reduceLeDiff,Nat.reduceBEq,Nat.reduceEqDiff,tfb,O28_15,O28_17,x28_20,eq_self, hkt', hne, hkk, hii, hkW, hkB, hiW, hiB, hri, hrib, hrk, hrkb, b1, b2]
      exact ⟨k + 1, ⟨by omega, by omega⟩, rfl, by rw [hla, hlb]; exact ⟨rfl, rfl⟩⟩
    · rw [if_neg (fun h => b2 h.2), Int.add_zero] at hlb
      simp (maxSteps := 4000000) +contextual (disch := first | omega | exact qdb_ok (by kernel_rfl) | exact okb_ok (by kernel_rfl)) only [bw1,bw2,bw3,bw4,bw5,bw6,bw7,bc0,bc1,bc2,bc3,bc4,bc5,bc6,AV.isNilS,AV.isNoRows,wk,binIs,idxV,AV.isSl,AV.isSlice,AV.rows,ps,pv,↓reduceIte,reduceCtorEq,Nat.reduceLeDiff,Nat.reduceEqDiff,tfb,O28_15,O28_17,x28_20,eq_self, hkt', hne, hkk, hii, hkW, hkB, hiW, hiB, hri, hrib, hrk, hrkb, b1, b2]
      exact ⟨k + 1, ⟨by omega, by omega⟩, rfl, by rw [hla, hlb]; exact ⟨rfl, rfl⟩⟩
def ent28 (args : List AV) (K : AV → List AV → Sto → Prop) (e : List AV) (s : Sto) : Prop := ent (α := (Rul) × (List Ska) × (Nat)) (fun aa => [aa.1.d, .sl 3 (aa.2.1.map Ska.c), .i (aa.2.2 : Int)]) (fun aa => aa.2.1.length ≤ 1000 ∧ ∀ s ∈ aa.2.1, VG aa.1 aa.2.2 s) (fun aa => .sl 2 ((swR aa.1 aa.2.1 aa.2.2).map Spn.c)) args K e s
theorem ent28_ok {args : List AV} {K : AV → List AV → Sto → Prop} {Q : Kt} {e : List AV} {s : Sto} (h : ent28 args K e s) : pcall Tryz.prog 28 args K Q e s := ent_ok (fun aa h => pf28 aa.1 aa.2.1 aa.2.2 h) h
theorem eq28 {r : Rul} {l : List Ska} {j : Nat} {KK : AV → List AV → Sto → Prop} {ee : List AV} {ss : Sto} : ent28 [.d (r.d), .d (.sl 3 (l.map Ska.c)), .d (.i (j : Int))] KK ee ss = ((l.length ≤ 1000 ∧ ∀ s ∈ l, VG r j s) ∧ KK (.d (.sl 2 ((swR r l j).map Spn.c))) ee ss) := by
  unfold ent28; rw [ent_iff (r, l, j) (by intro b h; simpa [Prod.ext_iff, and_assoc, Int.ofNat_inj, ints_inj, cals_inj, pcs_inj, skas_inj, scos_inj, ska_inj, rul_inj, sco_inj, cal_inj, ods_inj, od_inj, spns_inj, Int.ofNat_inj, ints_inj, cals_inj, pcs_inj, skas_inj, scos_inj, ska_inj, rul_inj, sco_inj, cal_inj, ods_inj, od_inj, spns_inj, Int.ofNat_inj, ints_inj, cals_inj, pcs_inj, skas_inj, scos_inj, ska_inj, rul_inj, sco_inj, cal_inj, Int.ofNat_inj, ints_inj, cals_inj, pcs_inj, skas_inj, scos_inj, ska_inj, rul_inj, sco_inj, cal_inj, ods_inj, od_inj, spns_inj, Int.ofNat_inj, ints_inj, cals_inj, pcs_inj, skas_inj, scos_inj, ska_inj, rul_inj, sco_inj, cal_inj, ods_inj, od_inj, spns_inj, Int.ofNat_inj, ints_inj, cals_inj, pcs_inj, skas_inj, scos_inj, ska_inj, rul_inj, sco_inj, cal_inj, ods_inj, od_inj, spns_inj, Int.ofNat_inj, ints_inj, cals_inj, pcs_inj, skas_inj, scos_inj, ska_inj, rul_inj, sco_inj, cal_inj] using h) rfl]; simp
def O9 : Nat → Sch := fun id => .done
theorem ho9 : Tryz.f9.body.map (okO O9) = some true := by kernel_rfl
def Cf9 : Nat → List AV → (AV → List AV → Sto → Prop) → Kt → List AV → Sto → Prop := fun f args K Q e s => match f with
  | 25 => ent25 args K e s
  | 26 => ent26 args K e s
  | 27 => ent27 args K e s
  | 28 => ent28 args K e s
  | _ => False
def Ct9 : CT := { f := Cf9, y := noYld, z := fun d => false }
theorem Ct9_ok : Ct9.ok Tryz.prog := ok_of_f (fun f args K Q e s h => by
  have h : Cf9 f args K Q e s := h
  unfold Cf9 at h; split at h
  · exact ent25_ok h
  · exact ent26_ok h
  · exact ent27_ok h
  · exact ent28_ok h
  · exact h.elim) (fun _ _ _ _ _ _ _ _ _ h => h)
theorem x9_25 {r : Rul} {l : List Ska} {KK : AV → List AV → Sto → Prop} {QQ : Kt} {ii : At KK} {jj : At QQ} {ee : List AV} {ss : Sto} : xC Ct9 25 [.d (r.d), .d (.sl 3 (l.map Ska.c))] KK QQ ii jj ee ss = ((l.length ≤ 1000) ∧ KK (.d (.b (conOk r l))) ee ss) := eq25
theorem x9_26 {n : Int} {lo : Int} {hi : Int} {KK : AV → List AV → Sto → Prop} {QQ : Kt} {ii : At KK} {jj : At QQ} {ee : List AV} {ss : Sto} : xC Ct9 26 [.d (.i n), .d (.i lo), .d (.i hi)] KK QQ ii jj ee ss = (KK (.d (.b (inB n lo hi))) ee ss) := eq26
theorem x9_27 {l : List Ska} {KK : AV → List AV → Sto → Prop} {QQ : Kt} {ii : At KK} {jj : At QQ} {ee : List AV} {ss : Sto} : xC Ct9 27 [.d (.sl 3 (l.map Ska.c))] KK QQ ii jj ee ss = ((l.length ≤ 1000) ∧ KK (.d (.i (if (jud l).2 = true then (jud l).1 else -1))) ee ss) := eq27
theorem x9_28 {r : Rul} {l : List Ska} {j : Nat} {KK : AV → List AV → Sto → Prop} {QQ : Kt} {ii : At KK} {jj : At QQ} {ee : List AV} {ss : Sto} : xC Ct9 28 [.d (r.d), .d (.sl 3 (l.map Ska.c)), .d (.i (j : Int))] KK QQ ii jj ee ss = ((l.length ≤ 1000 ∧ ∀ s ∈ l, VG r j s) ∧ KK (.d (.sl 2 ((swR r l j).map Spn.c))) ee ss) := eq28
theorem c9 : callable Tryz.prog 9 = true := by kernel_rfl
theorem pf9 (r : Rul) (l : List Ska) (j : Int) (h : l.length ≤ 1000 ∧ i64 j) : PF Tryz.prog 9 [r.d, .sl 3 (l.map Ska.c), .i j] (fun zz => zz = .ret (.tup [.sl 2 ((swG r l j).1.map Spn.c), .i (swG r l j).2])) := by
  obtain ⟨h1, hj64⟩ := h
  by_cases c0 : (40 : Int) < l.length
  · have hw : swG r l j = ([], 3) := by
      have : errG r l = 3 := by unfold errG; rw [if_pos c0]
      unfold swG; rw [this]; rfl
    rw [hw]
    refine PF_nil (PF_start (O := O9) Ct9_ok hmix ho9 Tryz.func9 c9 rfl Tryz.ntmps9 Tryz.results9 ?_)
    simp (maxSteps := 4000000) +contextual (disch := first | omega | exact qdb_ok (by kernel_rfl) | exact okb_ok (by kernel_rfl)) only [bw1,bw2,bw3,bw4,bw5,bw6,bw7,bc1,bc2,bc3,bc4,bc5,bc6,binIs,AV.isSlice,AV.rows,AV.outs,AV.outF,packD,AV.cells?,↓reduceIte,reduceCtorEq,Nat.reduceAdd,Nat.reduceSub,List.reduceReplicate,Nat.reduceLT,tfb,c0]
    try rfl
  by_cases c1 : conOk r l = true
  case neg =>
    have hw : swG r l j = ([], 1) := by
      have : errG r l = 1 := by unfold errG; rw [if_neg c0, if_neg c1]
      unfold swG; rw [this]; rfl
    rw [hw]
    refine PF_nil (PF_start (O := O9) Ct9_ok hmix ho9 Tryz.func9 c9 rfl Tryz.ntmps9 Tryz.results9 ?_)
    simp (maxSteps := 4000000) +contextual (disch := first | omega | exact qdb_ok (by kernel_rfl) | exact okb_ok (by kernel_rfl)) only [bw1,bw2,bw3,bw4,bw5,bw6,bw7,bc1,bc2,bc3,bc4,bc5,bc6,binIs,AV.isSlice,AV.rows,AV.outs,AV.outF,packD,AV.dl,AV.cells?,↓reduceIte,reduceCtorEq,Nat.reduceAdd,Nat.reduceSub,List.reduceReplicate,Nat.reduceLeDiff,Nat.reduceLT,tfb,x9_25,c0, c1, h1]
    try rfl
  have he : errG r l = 0 := by unfold errG; rw [if_neg c0, if_pos c1]
  have hjb := (con_jud c1).2
  have hj2 : (jud l).2 = false → (jud l).1 = 0 := (judN_b (l := l) l.length 0).2
  obtain ⟨J, hJ⟩ : ∃ J : Int, (if (jud l).2 = true then (jud l).1 else -1) = J := ⟨_, rfl⟩
  have hJb : -1 ≤ J ∧ J ≤ 9 := by rw [← hJ]; split <;> omega
  have hin : inB j 0 (J - 1) = inB j 0 ((jud l).1 - 1) := by
    rw [← hJ]
    split
    · rfl
    · rename_i hc
      have h0 := hj2 (by simpa using hc)
      rw [h0, Bool.eq_iff_iff, inB_iff, inB_iff]
      omega
  by_cases c2 : inB j 0 ((jud l).1 - 1) = true
  case neg =>
    have hw : swG r l j = ([], 2) := by unfold swG; rw [if_pos he, if_neg c2]
    rw [← hin] at c2
    rw [hw]
    refine PF_nil (PF_start (O := O9) Ct9_ok hmix ho9 Tryz.func9 c9 rfl Tryz.ntmps9 Tryz.results9 ?_)
    simp (maxSteps := 4000000) +contextual (disch := first | omega | exact qdb_ok (by kernel_rfl) | exact okb_ok (by kernel_rfl)) only [bw1,bw2,bw3,bw4,bw5,bw6,bw7,bc1,bc2,bc3,bc4,bc5,bc6,binIs,AV.isSlice,AV.rows,AV.outs,AV.outF,packD,AV.dl,AV.cells?,↓reduceIte,reduceCtorEq,Nat.reduceAdd,Nat.reduceSub,List.reduceReplicate,Nat.reduceLeDiff,Nat.reduceLT,Int.reduceNeg,tfb,x9_25,x9_26,x9_27,c0, c1, h1, hJ, c2]
    try rfl
  have hw : swG r l j = (swR r l j.toNat, 0) := by unfold swG; rw [if_pos he, if_pos c2]
  obtain ⟨hj0, hj1⟩ := inB_iff.1 c2
  obtain ⟨j, rfl⟩ : ∃ k : Nat, j = k := ⟨j.toNat, by omega⟩
  have hvg := con_vg c1 (j := j) (by omega)
  have hpr : l.length ≤ 1000 ∧ ∀ s ∈ l, VG r j s := ⟨h1, hvg⟩
  rw [← hin] at c2
  rw [hw, Int.toNat_natCast]
  refine PF_nil (PF_start (O := O9) Ct9_ok hmix ho9 Tryz.func9 c9 rfl Tryz.ntmps9 Tryz.results9 ?_)
  simp (maxSteps := 4000000) +contextual (disch := first | omega | exact qdb_ok (by kernel_rfl) | exact okb_ok (by kernel_rfl)) only [bw1,bw2,bw3,bw4,bw5,bw6,bw7,bc1,bc2,bc3,bc4,bc5,bc6,binIs,AV.isSlice,AV.rows,AV.outs,AV.outF,packD,AV.dl,AV.cells?,↓reduceIte,reduceCtorEq,Nat.reduceAdd,Nat.reduceSub,List.reduceReplicate,Nat.reduceLeDiff,Nat.reduceLT,Int.reduceNeg,tfb,x9_25,x9_26,x9_27,x9_28,c0, c1, h1, hJ, c2, hpr]
  try exact fun _ _ => trivial
def opN (r : Rul) (l : List Ska) (first : Int) (k : Nat) : List Int := ((List.range k).filter fun (i : Nat) => opI r l first i (jud l).1.toNat).map fun (i : Nat) => (i : Int)
theorem opN_yes {r : Rul} {l : List Ska} {first : Int} {k : Nat} (h : opI r l first k (jud l).1.toNat = true) : opN r l first (k + 1) = opN r l first k ++ [(k : Int)] := by
  unfold opN; rw [List.range_succ, List.filter_append, List.map_append, List.filter_cons, if_pos h]; rfl
theorem opN_no {r : Rul} {l : List Ska} {first : Int} {k : Nat} (h : ¬ opI r l first k (jud l).1.toNat = true) : opN r l first (k + 1) = opN r l first k := by
  unfold opN; rw [List.range_succ, List.filter_append, List.map_append, List.filter_cons, if_neg h]; simp
theorem opN_len {r : Rul} {l : List Ska} {first : Int} : ∀ k, (opN r l first k).length ≤ k
  | 0 => Nat.le_refl _
  | k + 1 => by
    have := opN_len (r := r) (l := l) (first := first) k
    by_cases h : opI r l first k (jud l).1.toNat = true
    · rw [opN_yes h, List.length_append, List.length_singleton]; omega
    · rw [opN_no h]; omega
def ent9 (args : List AV) (K : AV → List AV → Sto → Prop) (e : List AV) (s : Sto) : Prop := ent (α := (Rul) × (List Ska) × (Int)) (fun aa => [aa.1.d, .sl 3 (aa.2.1.map Ska.c), .i aa.2.2]) (fun aa => aa.2.1.length ≤ 1000 ∧ i64 aa.2.2) (fun aa => .tup [.sl 2 ((swG aa.1 aa.2.1 aa.2.2).1.map Spn.c), .i (swG aa.1 aa.2.1 aa.2.2).2]) args K e s
theorem ent9_ok {args : List AV} {K : AV → List AV → Sto → Prop} {Q : Kt} {e : List AV} {s : Sto} (h : ent9 args K e s) : pcall Tryz.prog 9 args K Q e s := ent_ok (fun aa h => pf9 aa.1 aa.2.1 aa.2.2 h) h
theorem eq9 {r : Rul} {l : List Ska} {j : Int} {KK : AV → List AV → Sto → Prop} {ee : List AV} {ss : Sto} : ent9 [.d (r.d), .d (.sl 3 (l.map Ska.c)), .d (.i j)] KK ee ss = ((l.length ≤ 1000 ∧ i64 j) ∧ KK (.d (.tup [.sl 2 ((swG r l j).1.map Spn.c), .i (swG r l j).2])) ee ss) := by
  unfold ent9; rw [ent_iff (r, l, j) (by intro b h; simpa [Prod.ext_iff, and_assoc, Int.ofNat_inj, ints_inj, cals_inj, pcs_inj, skas_inj, scos_inj, ska_inj, rul_inj, sco_inj, cal_inj, ods_inj, od_inj, spns_inj, Int.ofNat_inj, ints_inj, cals_inj, pcs_inj, skas_inj, scos_inj, ska_inj, rul_inj, sco_inj, cal_inj, ods_inj, od_inj, spns_inj, Int.ofNat_inj, ints_inj, cals_inj, pcs_inj, skas_inj, scos_inj, ska_inj, rul_inj, sco_inj, cal_inj, Int.ofNat_inj, ints_inj, cals_inj, pcs_inj, skas_inj, scos_inj, ska_inj, rul_inj, sco_inj, cal_inj, ods_inj, od_inj, spns_inj, Int.ofNat_inj, ints_inj, cals_inj, pcs_inj, skas_inj, scos_inj, ska_inj, rul_inj, sco_inj, cal_inj, ods_inj, od_inj, spns_inj, Int.ofNat_inj, ints_inj, cals_inj, pcs_inj, skas_inj, scos_inj, ska_inj, rul_inj, sco_inj, cal_inj, ods_inj, od_inj, spns_inj, Int.ofNat_inj, ints_inj, cals_inj, pcs_inj, skas_inj, scos_inj, ska_inj, rul_inj, sco_inj, cal_inj] using h) rfl]; simp
def O11 : Nat → Sch := fun id => .done
theorem ho11 : Tryz.f11.body.map (okO O11) = some true := by kernel_rfl
def Cf11 : Nat → List AV → (AV → List AV → Sto → Prop) → Kt → List AV → Sto → Prop := fun f args K Q e s => match f with
  | 25 => ent25 args K e s
  | 26 => ent26 args K e s
  | 27 => ent27 args K e s
  | 28 => ent28 args K e s
  | _ => False
def Ct11 : CT := { f := Cf11, y := noYld, z := fun d => false }
theorem ctz11 {d : Nat} : CT.z Ct11 d = (false) := id rfl
theorem Ct11_ok : Ct11.ok Tryz.prog := ok_of_f (fun f args K Q e s h => by
  have h : Cf11 f args K Q e s := h
  unfold Cf11 at h; split at h
  · exact ent25_ok h
  · exact ent26_ok h
  · exact ent27_ok h
  · exact ent28_ok h
  · exact h.elim) (fun _ _ _ _ _ _ _ _ _ h => h)
theorem x11_25 {r : Rul} {l : List Ska} {KK : AV → List AV → Sto → Prop} {QQ : Kt} {ii : At KK} {jj : At QQ} {ee : List AV} {ss : Sto} : xC Ct11 25 [.d (r.d), .d (.sl 3 (l.map Ska.c))] KK QQ ii jj ee ss = ((l.length ≤ 1000) ∧ KK (.d (.b (conOk r l))) ee ss) := eq25
theorem x11_26 {n : Int} {lo : Int} {hi : Int} {KK : AV → List AV → Sto → Prop} {QQ : Kt} {ii : At KK} {jj : At QQ} {ee : List AV} {ss : Sto} : xC Ct11 26 [.d (.i n), .d (.i lo), .d (.i hi)] KK QQ ii jj ee ss = (KK (.d (.b (inB n lo hi))) ee ss) := eq26
theorem x11_27 {l : List Ska} {KK : AV → List AV → Sto → Prop} {QQ : Kt} {ii : At KK} {jj : At QQ} {ee : List AV} {ss : Sto} : xC Ct11 27 [.d (.sl 3 (l.map Ska.c))] KK QQ ii jj ee ss = ((l.length ≤ 1000) ∧ KK (.d (.i (if (jud l).2 = true then (jud l).1 else -1))) ee ss) := eq27
theorem x11_28 {r : Rul} {l : List Ska} {j : Nat} {KK : AV → List AV → Sto → Prop} {QQ : Kt} {ii : At KK} {jj : At QQ} {ee : List AV} {ss : Sto} : xC Ct11 28 [.d (r.d), .d (.sl 3 (l.map Ska.c)), .d (.i (j : Int))] KK QQ ii jj ee ss = ((l.length ≤ 1000 ∧ ∀ s ∈ l, VG r j s) ∧ KK (.d (.sl 2 ((swR r l j).map Spn.c))) ee ss) := eq28
theorem c11 : callable Tryz.prog 11 = true := by kernel_rfl
theorem pf11 (r : Rul) (l : List Ska) (first : Int) (h : l.length ≤ 1000 ∧ i64 first) : PF Tryz.prog 11 [r.d, .sl 3 (l.map Ska.c), .i first] (fun zz => zz = .ret (.tup [.sl 1 ((opG r l first).1.map ic), .i (opG r l first).2])) := by
  obtain ⟨h1, hf64⟩ := h
  by_cases c0 : (40 : Int) < l.length
  · have hw : opG r l first = ([], 3) := by
      have : errG r l = 3 := by unfold errG; rw [if_pos c0]
      unfold opG; rw [this]; rfl
    rw [hw]
    refine PF_nil (PF_start (O := O11) Ct11_ok hmix ho11 Tryz.func11 c11 rfl Tryz.ntmps11 Tryz.results11 ?_)
    simp (maxSteps := 4000000) +contextual (disch := first | omega | exact qdb_ok (by kernel_rfl) | exact okb_ok (by kernel_rfl)) only [bw1,bw2,bw3,bw4,bw5,bw6,bw7,bc1,bc2,bc3,bc4,bc5,bc6,binIs,AV.isSlice,AV.rows,AV.outs,AV.outF,packD,AV.cells?,↓reduceIte,reduceCtorEq,Nat.reduceAdd,Nat.reduceSub,List.reduceReplicate,Nat.reduceLT,tfb,c0]
    try rfl
  by_cases c1 : conOk r l = true
  case neg =>
    have hw : opG r l first = ([], 1) := by
      have : errG r l = 1 := by unfold errG; rw [if_neg c0, if_neg c1]
      unfold opG; rw [this]; rfl
    rw [hw]
    refine PF_nil (PF_start (O := O11) Ct11_ok hmix ho11 Tryz.func11 c11 rfl Tryz.ntmps11 Tryz.results11 ?_)
    simp (maxSteps := 4000000) +contextual (disch := first | omega | exact qdb_ok (by kernel_rfl) | exact okb_ok (by kernel_rfl)) only [bw1,bw2,bw3,bw4,bw5,bw6,bw7,bc1,bc2,bc3,bc4,bc5,bc6,binIs,AV.isSlice,AV.rows,AV.outs,AV.outF,packD,AV.dl,AV.cells?,↓reduceIte,reduceCtorEq,Nat.reduceAdd,Nat.reduceSub,List.reduceReplicate,Nat.reduceLeDiff,Nat.reduceLT,tfb,x11_25,c0, c1, h1]
    try rfl
  have he : errG r l = 0 := by unfold errG; rw [if_neg c0, if_pos c1]
  by_cases c2 : inB first 1 40 = true
  case neg =>
    have hw : opG r l first = ([], 2) := by unfold opG; rw [if_pos he, if_neg c2]
    rw [hw]
    refine PF_nil (PF_start (O := O11) Ct11_ok hmix ho11 Tryz.func11 c11 rfl Tryz.ntmps11 Tryz.results11 ?_)
    simp (maxSteps := 4000000) +contextual (disch := first | omega | exact qdb_ok (by kernel_rfl) | exact okb_ok (by kernel_rfl)) only [bw1,bw2,bw3,bw4,bw5,bw6,bw7,bc1,bc2,bc3,bc4,bc5,bc6,binIs,AV.isSlice,AV.rows,AV.outs,AV.outF,packD,AV.dl,AV.cells?,↓reduceIte,reduceCtorEq,Nat.reduceAdd,Nat.reduceSub,List.reduceReplicate,Nat.reduceLeDiff,Nat.reduceLT,tfb,x11_25,x11_26,c0, c1, h1, c2]
    try rfl
  have hfb := inB_iff.1 c2
  have hw : opG r l first = (opN r l first l.length, 0) := by unfold opG opL opN; rw [if_pos he, if_pos c2]
  rw [hw]
  have hjb := (con_jud c1).2
  have hj2 : (jud l).2 = false → (jud l).1 = 0 := (judN_b (l := l) l.length 0).2
  obtain ⟨J, hJ⟩ : ∃ J : Int, (if (jud l).2 = true then (jud l).1 else -1) = J := ⟨_, rfl⟩
  have hJb : -1 ≤ J ∧ J ≤ 9 := by rw [← hJ]; split <;> omega
  have hJn : J.toNat = (jud l).1.toNat := by
    rw [← hJ]
    split
    · rfl
    · rename_i hc
      have h0 := hj2 (by simpa using hc)
      rw [h0]; rfl
  have hJl : ∀ x : Nat, (x : Int) < J → (x : Int) < (jud l).1 := fun x hx => by omega
  have hl40 : l.length ≤ 40 := by omega
  refine PF_nil (PF_start (O := O11) Ct11_ok hmix ho11 Tryz.func11 c11 rfl Tryz.ntmps11 Tryz.results11 ?_)
  simp (maxSteps := 4000000) +contextual (disch := first | omega | exact qdb_ok (by kernel_rfl) | exact okb_ok (by kernel_rfl)) only [bw1,bw2,bw4,bw5,bw6,bw7,bc1,bc2,bc3,bc4,bc5,bc6,binIs,AV.isSlice,AV.rows,AV.dl,AV.cells?,↓reduceIte,reduceCtorEq,Nat.reduceAdd,Nat.reduceSub,List.reduceReplicate,Nat.reduceLeDiff,Nat.reduceLT,tfb,x11_25,x11_26,c0, c1, h1, c2]
  refine seed (m1 := mk _) (m2 := mk _) 8 60 3 1 (by decide) rfl rfl (by simp [Sto.mens, AV.mens, AV.men]) rfl ?_
  simp (maxSteps := 4000000) +contextual (disch := first | omega | exact qdb_ok (by kernel_rfl) | exact okb_ok (by kernel_rfl)) only [bw6]
  refine loop_xu (O := O11) (tb := 0) Ct11_ok hmix (by kernel_rfl) (σ := Nat) (fun i => [(8, .own 60 3 1 ((opN r l first i).map ic)), (9, .i i), (10, .any), (11, .any), (12, .any)]) (fun _ => []) (fun i => i ≤ l.length) (fun i => l.length - i) 0 (Nat.zero_le _) ?_ ?_
  · have s0 : opN r l first 0 = [] := rfl
    simp (maxSteps := 4000000) +contextual (disch := first | omega | exact qdb_ok (by kernel_rfl) | exact okb_ok (by kernel_rfl)) only [bw4,bw5,bw6,bc0,bc3,bc4,bc5,bc6,AV.isNilS,AV.isNoRows,wk,↓reduceIte,reduceCtorEq,eq_self, s0]
    try rfl
  intro i hi
  have hii : (0 : Int) ≤ i := by omega
  have hol := opN_len (r := r) (l := l) (first := first) i
  by_cases hit : i < l.length
  case neg =>
    have hit' : ¬ (i : Int) < l.length := by omega
    obtain rfl : i = l.length := by omega
    simp (maxSteps := 4000000) +contextual (disch := first | omega | exact qdb_ok (by kernel_rfl) | exact okb_ok (by kernel_rfl)) only [bw1,bw2,bw3,bw4,bw5,bw6,bw7,bc0,bc1,bc2,bc3,bc4,bc5,bc6,binIs,AV.isSlice,AV.rows,AV.outs,AV.outF,packD,↓reduceIte,reduceCtorEq,tfb,eq_self, hit']
    try rfl
  have hit' : (i : Int) < l.length := by omega
  simp (maxSteps := 4000000) +contextual (disch := first | omega | exact qdb_ok (by kernel_rfl) | exact okb_ok (by kernel_rfl)) only [bw1,bw2,bw4,bw5,bw6,bw7,bc0,bc1,bc4,bc5,bc6,binIs,AV.isSlice,AV.rows,↓reduceIte,tfb,eq_self, hit']
  refine loop_xu (O := O11) (tb := 0) Ct11_ok hmix (by kernel_rfl) (σ := Nat) (fun x => [(10, .b (opI r l first i x)), (11, .i x), (12, .any)]) (fun _ => []) (fun x => x ≤ J.toNat) (fun x => J.toNat - x) 0 (Nat.zero_le _) ?_ ?_
  · have o0 : opI r l first i 0 = false := rfl
    simp (maxSteps := 4000000) +contextual (disch := first | omega | exact qdb_ok (by kernel_rfl) | exact okb_ok (by kernel_rfl)) only [bw4,bw5,bw6,bc0,bc3,bc5,bc6,AV.isNilS,AV.isNoRows,wk,↓reduceIte,reduceCtorEq,eq_self, o0]
    try rfl
  intro x hx
  have hxx : (0 : Int) ≤ x := by omega
  by_cases hxt : (x : Int) < J
  case neg =>
    have hxn : x = (jud l).1.toNat := by omega
    by_cases ho : opI r l first i x = true
    · have hy := opN_yes (r := r) (l := l) (first := first) (k := i) (by rw [← hxn]; exact ho)
      simp (maxSteps := 4000000) +contextual (disch := first | omega | exact qdb_ok (by kernel_rfl) | exact okb_ok (by kernel_rfl)) only [bw1,bw2,bw4,bw5,bw6,bw7,bc0,bc1,bc3,bc4,bc5,bc6,AV.isNilS,AV.isNoRows,wk,binIs,AV.isSl,AV.rows,D.one,Value.oneCell',tagOf,AV.isApp,AV.dcells,D.cells?,↓reduceIte,reduceCtorEq,Nat.reduceAdd,Nat.reduceMul,List.reduceReplicate,Nat.reduceLeDiff,Nat.reduceLT,Nat.reduceBEq,Nat.reduceEqDiff,Int.reduceNeg,tfb,ctz11,x11_27,eq_self, h1, hJ, hxt, ho]
      exact ⟨by omega, by omega, i + 1, ⟨by omega, by omega⟩, by rw [hy, List.map_append]; rfl, rfl⟩
    · have ho' : opI r l first i x = false := by simpa using ho
      have hy := opN_no (r := r) (l := l) (first := first) (k := i) (by rw [← hxn]; exact ho)
      simp (maxSteps := 4000000) +contextual (disch := first | omega | exact qdb_ok (by kernel_rfl) | exact okb_ok (by kernel_rfl)) only [bw1,bw2,bw5,bw6,bw7,bc0,bc1,bc3,bc4,bc5,bc6,AV.isNilS,AV.isNoRows,wk,binIs,↓reduceIte,reduceCtorEq,Int.reduceNeg,tfb,x11_27,eq_self, h1, hJ, hxt, ho']
      exact ⟨i + 1, ⟨by omega, by omega⟩, by rw [hy], rfl⟩
  have hvg := con_vg c1 (j := x) (hJl x hxt)
  have hpr : l.length ≤ 1000 ∧ ∀ s ∈ l, VG r x s := ⟨h1, hvg⟩
  have hsl := swR_len (r := r) (l := l) (j := x)
  have hrs : ((swR r l x).map Spn.c).getD i [] = Spn.c ((swR r l x).getD i default) := Go.E.row_at (by omega)
  have hsb := sw_bd (r := r) (l := l) (j := x) hit
  have hop := opI_succ (r := r) (l := l) (first := first) (i := i) (n := x)
  obtain ⟨sp, hsp⟩ : ∃ sp, (swR r l x).getD i default = sp := ⟨_, rfl⟩
  rw [hsp] at hrs hsb
  have hob : opB r l first i x = inB first sp.lo (sp.hi - 1) := by unfold opB; rw [hsp]
  by_cases ho : opI r l first i x = true
  · rw [ho, Bool.true_or] at hop
    simp (maxSteps := 4000000) +contextual (disch := first | omega | exact qdb_ok (by kernel_rfl) | exact okb_ok (by kernel_rfl)) only [bw1,bw2,bw3,bw4,bw5,bw6,bw7,bc0,bc1,bc2,bc3,bc4,bc5,bc6,AV.isNilS,AV.isNoRows,wk,binIs,idxV,AV.isSl,AV.rows,ps,pv,AV.dl,AV.cells?,AV.menc,AV.one,D.one,Value.oneCell',↓reduceIte,reduceCtorEq,Nat.reduceAdd,Nat.reduceLeDiff,Nat.reduceLT,Nat.reduceBEq,Nat.reduceEqDiff,Int.reduceNeg,tfb,x11_27,x11_28,eq_self, h1, hJ, hxt, hpr, hsl, hit', hii, hrs, ho]
    exact ⟨fun _ _ => trivial, x + 1, ⟨by omega, by omega⟩, by rw [hop], rfl⟩
  have ho' : opI r l first i x = false := by simpa using ho
  rw [ho', Bool.false_or, hob] at hop
  by_cases d1 : sp.lo ≤ first
  · have hdd : inB first sp.lo (sp.hi - 1) = decide (first < sp.hi) := by
      rw [Bool.eq_iff_iff, inB_iff, decide_eq_true_eq]; omega
    rw [hdd] at hop
    simp (maxSteps := 4000000) +contextual (disch := first | omega | exact qdb_ok (by kernel_rfl) | exact okb_ok (by kernel_rfl)) only [bw1,bw2,bw3,bw4,bw5,bw6,bw7,bc0,bc1,bc2,bc3,bc4,bc5,bc6,AV.isNilS,AV.isNoRows,wk,binIs,addF,AV.isPtr,idxV,AV.isSl,AV.rows,ps,pv,AV.dl,AV.cells?,AV.menc,AV.one,D.one,Value.oneCell',↓reduceIte,reduceCtorEq,Nat.reduceAdd,Nat.reduceLeDiff,Nat.reduceLT,Nat.reduceBEq,Nat.reduceEqDiff,Int.reduceNeg,tfb,x11_27,x11_28,eq_self, h1, hJ, hxt, hpr, hsl, hit', hii, hrs, ho', d1]
    exact ⟨fun _ _ => trivial, x + 1, ⟨by omega, by omega⟩, by rw [hop], rfl⟩
  · have hdd : inB first sp.lo (sp.hi - 1) = false := inB_no.2 (by omega)
    rw [hdd] at hop
    simp (maxSteps := 4000000) +contextual (disch := first | omega | exact qdb_ok (by kernel_rfl) | exact okb_ok (by kernel_rfl)) only [bw1,bw2,bw3,bw4,bw5,bw6,bw7,bc0,bc1,bc2,bc3,bc4,bc5,bc6,AV.isNilS,AV.isNoRows,wk,binIs,addF,AV.isPtr,idxV,AV.isSl,AV.rows,ps,pv,AV.dl,AV.cells?,AV.menc,AV.one,D.one,Value.oneCell',↓reduceIte,reduceCtorEq,Nat.reduceAdd,Nat.reduceLeDiff,Nat.reduceLT,Nat.reduceBEq,Nat.reduceEqDiff,Int.reduceNeg,tfb,x11_27,x11_28,eq_self, h1, hJ, hxt, hpr, hsl, hit', hii, hrs, ho', d1]
    exact ⟨fun _ _ => trivial, x + 1, ⟨by omega, by omega⟩, by rw [hop], rfl⟩
def ent11 (args : List AV) (K : AV → List AV → Sto → Prop) (e : List AV) (s : Sto) : Prop := ent (α := (Rul) × (List Ska) × (Int)) (fun aa => [aa.1.d, .sl 3 (aa.2.1.map Ska.c), .i aa.2.2]) (fun aa => aa.2.1.length ≤ 1000 ∧ i64 aa.2.2) (fun aa => .tup [.sl 1 ((opG aa.1 aa.2.1 aa.2.2).1.map ic), .i (opG aa.1 aa.2.1 aa.2.2).2]) args K e s
theorem ent11_ok {args : List AV} {K : AV → List AV → Sto → Prop} {Q : Kt} {e : List AV} {s : Sto} (h : ent11 args K e s) : pcall Tryz.prog 11 args K Q e s := ent_ok (fun aa h => pf11 aa.1 aa.2.1 aa.2.2 h) h
theorem eq11 {r : Rul} {l : List Ska} {first : Int} {KK : AV → List AV → Sto → Prop} {ee : List AV} {ss : Sto} : ent11 [.d (r.d), .d (.sl 3 (l.map Ska.c)), .d (.i first)] KK ee ss = ((l.length ≤ 1000 ∧ i64 first) ∧ KK (.d (.tup [.sl 1 ((opG r l first).1.map ic), .i (opG r l first).2])) ee ss) := by
  unfold ent11; rw [ent_iff (r, l, first) (by intro b h; simpa [Prod.ext_iff, and_assoc, Int.ofNat_inj, ints_inj, cals_inj, pcs_inj, skas_inj, scos_inj, ska_inj, rul_inj, sco_inj, cal_inj, ods_inj, od_inj, spns_inj, Int.ofNat_inj, ints_inj, cals_inj, pcs_inj, skas_inj, scos_inj, ska_inj, rul_inj, sco_inj, cal_inj, ods_inj, od_inj, spns_inj, Int.ofNat_inj, ints_inj, cals_inj, pcs_inj, skas_inj, scos_inj, ska_inj, rul_inj, sco_inj, cal_inj, Int.ofNat_inj, ints_inj, cals_inj, pcs_inj, skas_inj, scos_inj, ska_inj, rul_inj, sco_inj, cal_inj, ods_inj, od_inj, spns_inj, Int.ofNat_inj, ints_inj, cals_inj, pcs_inj, skas_inj, scos_inj, ska_inj, rul_inj, sco_inj, cal_inj, ods_inj, od_inj, spns_inj, Int.ofNat_inj, ints_inj, cals_inj, pcs_inj, skas_inj, scos_inj, ska_inj, rul_inj, sco_inj, cal_inj, ods_inj, od_inj, spns_inj, Int.ofNat_inj, ints_inj, cals_inj, pcs_inj, skas_inj, scos_inj, ska_inj, rul_inj, sco_inj, cal_inj] using h) rfl]; simp
end Go.Proofs.YtapglfcaghlpfaaGreat
