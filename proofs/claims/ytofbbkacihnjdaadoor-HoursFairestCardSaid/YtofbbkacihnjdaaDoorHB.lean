/- A part of the proof that the last text ends: what functions of the program do, told by plain data. -/
import Derived.Test.YtofbbkacihnjdaaDoorHA
set_option linter.unusedVariables false
set_option linter.unusedSimpArgs false
namespace Go.Proofs.YtofbbkacihnjdaaDoor
open Go Go.E
set_option maxRecDepth 100000
set_option maxHeartbeats 16000000
def O14 : Nat → Sch := fun id => if id = 6 then .one 0 (.one 1 (.one 2 (.one 3 (.one 4 (.one 5 (.one 6 (.one 7 (.one 8 (.done))))))))) else .done
theorem O14_6 : O14 6 = .one 0 (.one 1 (.one 2 (.one 3 (.one 4 (.one 5 (.one 6 (.one 7 (.one 8 (.done))))))))) := rfl
theorem ho14 : Tryd.f14.body.map (okO O14) = some true := by kernel_rfl
def Cf14 : Nat → List AV → (AV → List AV → Sto → Prop) → Kt → List AV → Sto → Prop := fun f args K Q e s => match f with
  | _ => False
def Ct14 : CT := { f := Cf14, y := noYld, z := fun d => false }
theorem Ct14_ok : Ct14.ok Tryd.prog := ok_of_f (fun f args K Q e s h => by
  have h : Cf14 f args K Q e s := h
  unfold Cf14 at h; split at h
  · exact h.elim) (fun _ _ _ _ _ _ _ _ _ h => h)
theorem c14 : callable Tryd.prog 14 = true := by kernel_rfl
theorem pf14 (a b : List Int) (h : a.length ≤ 1000) : PF Tryd.prog 14 [.sl 1 (a.map ic), .sl 1 (b.map ic)] (fun zz => zz = .ret (.b (decide (a = b)))) := by
  by_cases c0 : (a.length : Int) = b.length
  case neg =>
    have c0b : ((a.length : Int) != (b.length : Int)) = true := by simpa using c0
    rw [decide_eq_false (fun e => c0 (by rw [e]))]
    refine PF_nil (PF_start (O := O14) Ct14_ok hmix ho14 Tryd.func14 c14 rfl Tryd.ntmps14 Tryd.results14 ?_)
    simp (maxSteps := 4000000) +contextual (disch := first | omega | exact qdb_ok (by kernel_rfl) | exact okb_ok (by kernel_rfl)) only [bw1,bw2,bw3,bw4,bw5,bw6,bc1,bc2,bc3,bc4,bc5,binIs,AV.isSlice,AV.rows,AV.outs,AV.outF,packD,↓reduceIte,Nat.reduceAdd,Nat.reduceSub,List.reduceReplicate,tfb,c0b]
  have c0b : ((a.length : Int) != (b.length : Int)) = false := by simpa using c0
  obtain ⟨W, hW⟩ : ∃ W, W = decide (a = b) := ⟨_, rfl⟩
  rw [← hW]
  refine PF_nil (PF_start (O := O14) Ct14_ok hmix ho14 Tryd.func14 c14 rfl Tryd.ntmps14 Tryd.results14 ?_)
  simp (maxSteps := 4000000) +contextual (disch := first | omega | exact qdb_ok (by kernel_rfl) | exact okb_ok (by kernel_rfl)) only [bw1,bw2,bw4,bw5,bw6,bc1,bc4,bc5,binIs,AV.isSlice,AV.rows,↓reduceIte,Nat.reduceAdd,Nat.reduceSub,List.reduceReplicate,tfb,c0b]
  refine loop_xu (O := O14) (tb := 0) Ct14_ok hmix (by kernel_rfl) (σ := Nat) (fun k => [(5, .i k)]) (fun k => []) (fun k => k ≤ a.length ∧ ∀ q, q < k → a.getD q default = b.getD q default) (fun k => a.length - k) 0 ⟨Nat.zero_le _, fun q hq => by omega⟩ ?_ ?_
  · simp (maxSteps := 4000000) +contextual (disch := first | omega | exact qdb_ok (by kernel_rfl) | exact okb_ok (by kernel_rfl)) only [bw4,bw5,bw6,bc0,bc3,bc5,bc6,AV.isNilS,AV.isNoRows,wk,↓reduceIte,reduceCtorEq,eq_self]
    try rfl
  rintro k ⟨hk, hq⟩
  by_cases hlt : k < a.length
  case neg =>
    obtain rfl : k = a.length := by omega
    have hWt : W = true := by
      rw [hW, decide_eq_true]
      apply List.ext_getElem (by omega)
      intro i h1 h2
      have := hq i h1
      rwa [at_lt h1, at_lt h2] at this
    simp (maxSteps := 4000000) +contextual (disch := first | omega | exact qdb_ok (by kernel_rfl) | exact okb_ok (by kernel_rfl)) only [bw1,bw2,bw3,bw4,bw5,bw6,bw7,bc0,bc1,bc2,bc3,bc4,bc5,bc6,binIs,AV.isSlice,AV.rows,AV.outs,AV.outF,packD,↓reduceIte,tfb,eq_self, Int.lt_irrefl, hWt]
  have hlt' : (k : Int) < a.length := by omega
  have hlt2 : (k : Int) < b.length := by omega
  by_cases d1 : a.getD k default = b.getD k default
  · simp (maxSteps := 4000000) +contextual (disch := first | omega | exact qdb_ok (by kernel_rfl) | exact okb_ok (by kernel_rfl)) only [bw1,bw2,bw3,bw4,bw5,bw6,bw7,bc0,bc1,bc2,bc3,bc4,bc5,bc6,AV.isNilS,AV.isNoRows,wk,binIs,idxV,AV.isSl,AV.isSlice,AV.rows,ps,pv,↓reduceIte,reduceCtorEq,Nat.reduceLeDiff,tfb,O14_6,eq_self, hlt', hlt2, d1, bne_self_eq_false]
    repeat (refine And.intro (by omega) ?_)
    exact ⟨k + 1, ⟨⟨by omega, fun q hq' => by rcases Nat.lt_succ_iff_lt_or_eq.1 hq' with h' | rfl; exact hq q h'; exact d1⟩, by omega⟩, rfl⟩
  · have hWf : W = false := by
      rw [hW, decide_eq_false]; intro e; exact d1 (by rw [e])
    have hne : (a.getD k default != b.getD k default) = true := by simpa using d1
    simp (maxSteps := 4000000) +contextual (disch := first | omega | exact qdb_ok (by kernel_rfl) | exact okb_ok (by kernel_rfl)) only [bw1,bw2,bw3,bw4,bw5,bw6,bw7,bc0,bc1,bc2,bc3,bc4,bc5,bc6,binIs,idxV,AV.isSl,AV.isSlice,AV.rows,ps,pv,AV.outs,AV.outF,packD,↓reduceIte,Nat.reduceLeDiff,tfb,O14_6,eq_self, hlt', hlt2, hWf, hne]
    try (and_intros <;> first | omega | trivial)
def lgT (t : Tt) : Bool := decide (8 < (t.groups.length : Int)) || decide (14 < (t.hours.length : Int))
def ent14 (args : List AV) (K : AV → List AV → Sto → Prop) (e : List AV) (s : Sto) : Prop := ent (α := (List Int) × (List Int)) (fun aa => [.sl 1 (aa.1.map ic), .sl 1 (aa.2.map ic)]) (fun aa => aa.1.length ≤ 1000) (fun aa => .b (decide (aa.1 = aa.2))) args K e s
theorem ent14_ok {args : List AV} {K : AV → List AV → Sto → Prop} {Q : Kt} {e : List AV} {s : Sto} (h : ent14 args K e s) : pcall Tryd.prog 14 args K Q e s := ent_ok (fun aa h => pf14 aa.1 aa.2 h) h
theorem eq14 {a : List Int} {b : List Int} {KK : AV → List AV → Sto → Prop} {ee : List AV} {ss : Sto} : ent14 [.d (.sl 1 (a.map ic)), .d (.sl 1 (b.map ic))] KK ee ss = ((a.length ≤ 1000) ∧ KK (.d (.b (decide (a = b)))) ee ss) := by
  unfold ent14; rw [ent_iff (a, b) (by intro b h; simpa [Prod.ext_iff, and_assoc, Int.ofNat_inj, ints_inj, hrs_inj, grs_inj, hr_inj, gr_inj, tt_inj] using h) rfl]; simp
def plOk (t : Tt) (p : List Int) : Bool := p.all (fun g => inB g (-1) ((t.groups.length : Int) - 1)) && decide ((p.length : Int) = t.hours.length)
def cnG (p : List Int) (k : Nat) (g : Int) : Nat := (p.take k).countP fun x => decide (x = g)
def cnL (n : Nat) (p : List Int) (k : Nat) : List Int := (List.range n).map fun g : Nat => (cnG p k (g : Int) : Int)
theorem cnL_len {n : Nat} {p : List Int} {k : Nat} : (cnL n p k).length = n := by simp [cnL]
theorem cnL_at {n : Nat} {p : List Int} {k g : Nat} (h : g < n) : (cnL n p k).getD g default = (cnG p k (g : Int) : Int) := by
  rw [at_lt (by rw [cnL_len]; exact h)]
  unfold cnL
  rw [List.getElem_map, List.getElem_range]
theorem cnG_le {p : List Int} {k : Nat} {g : Int} : cnG p k g ≤ k := by
  unfold cnG; exact Nat.le_trans List.countP_le_length (by rw [List.length_take]; omega)
theorem cnG_yes {p : List Int} {k : Nat} (h : k < p.length) {g : Int} (e : p.getD k default = g) : cnG p (k + 1) g = cnG p k g + 1 := by
  unfold cnG; rw [take_succ h, List.countP_append, List.countP_singleton, e]; simp
theorem cnG_no {p : List Int} {k : Nat} (h : k < p.length) {g : Int} (e : ¬ p.getD k default = g) : cnG p (k + 1) g = cnG p k g := by
  unfold cnG; rw [take_succ h, List.countP_append, List.countP_singleton, decide_eq_false e]; simp
theorem cnL_zero {n : Nat} {p : List Int} : cnL n p 0 = List.replicate n 0 := by
  apply List.ext_getElem (by simp [cnL])
  intro i h1 h2
  simp [cnL, cnG]
theorem cnL_no {n : Nat} {p : List Int} {k : Nat} (h : k < p.length) (e : p.getD k default < 0) : cnL n p (k + 1) = cnL n p k := by
  unfold cnL
  apply List.map_congr_left
  intro g hg
  rw [cnG_no h (by omega)]
theorem cnL_yes {n : Nat} {p : List Int} {k g : Nat} (h : k < p.length) (hg : g < n) (e : p.getD k default = (g : Int)) : cnL n p (k + 1) = (cnL n p k).set g ((cnG p k (g : Int) : Int) + 1) := by
  apply List.ext_getElem (by simp [cnL])
  intro i h1 h2
  rw [List.getElem_set]
  have hi : i < n := by simpa [cnL] using h1
  rw [← at_lt h1, cnL_at hi]
  by_cases c : g = i
  · subst c
    rw [if_pos rfl, cnG_yes h e]; rfl
  · rw [if_neg c, ← at_lt (by rw [cnL_len]; exact hi), cnL_at hi, cnG_no h (by omega)]
theorem ics_flat : ∀ L : List Int, rowsFlat (L.map ic) = true
  | [] => rfl
  | a :: L => by
    have := ics_flat L
    simp only [rowsFlat, List.map_cons, List.all_cons, Bool.and_eq_true] at this ⊢
    exact ⟨rfl, this⟩
def O29 : Nat → Sch := fun id => if id = 6 then .one 0 (.one 1 (.one 2 (.one 3 (.one 4 (.one 5 (.one 6 (.one 7 (.one 8 (.one 9 (.one 10 (.one 11 (.one 12 (.one 13 (.one 14 (.done))))))))))))))) else .done
theorem O29_6 : O29 6 = .one 0 (.one 1 (.one 2 (.one 3 (.one 4 (.one 5 (.one 6 (.one 7 (.one 8 (.one 9 (.one 10 (.one 11 (.one 12 (.one 13 (.one 14 (.done))))))))))))))) := rfl
theorem ho29 : Tryd.f29.body.map (okO O29) = some true := by kernel_rfl
def Cf29 : Nat → List AV → (AV → List AV → Sto → Prop) → Kt → List AV → Sto → Prop := fun f args K Q e s => match f with
  | _ => False
def Ct29 : CT := { f := Cf29, y := noYld, z := fun d => false }
theorem Ct29_ok : Ct29.ok Tryd.prog := ok_of_f (fun f args K Q e s h => by
  have h : Cf29 f args K Q e s := h
  unfold Cf29 at h; split at h
  · exact h.elim) (fun _ _ _ _ _ _ _ _ _ h => h)
theorem c29 : callable Tryd.prog 29 = true := by kernel_rfl
theorem pf29 (t : Tt) (p : List Int) (f : Nat) (h : (t.groups.length ≤ 1000 ∧ f ≤ p.length ∧ p.length ≤ 1000) ∧ ∀ j, j < f → -1 ≤ p.getD j default ∧ p.getD j default < t.groups.length) : PFo Tryd.prog 29 3 1 [.agg t.c, .sl 1 (p.map ic), .i (f : Int)] (fun zz => zz = ((cnL t.groups.length p f).map ic)) := by
  obtain ⟨⟨hg, hf, hp⟩, hpg⟩ := h
  have hz : List.replicate t.groups.length [D.v (Value.int .i64 0)] = (cnL t.groups.length p 0).map ic := by
    rw [cnL_zero]; simp
  refine PFo_start (O := O29) Ct29_ok hmix ho29 Tryd.func29 c29 rfl Tryd.ntmps29 Tryd.results29 ?_
  simp (maxSteps := 4000000) +contextual (disch := first | omega | exact qdb_ok (by kernel_rfl) | exact okb_ok (by kernel_rfl)) only [bw1,bw2,bw4,bw5,bw6,bc2,bc3,bc4,bc5,bc6,addF,AV.isPtr,AV.isSlice,AV.rows,AV.cells?,D.one,Value.oneCell',↓reduceIte,reduceCtorEq,Nat.reduceAdd,Nat.reduceSub,List.reduceReplicate,Nat.reduceLeDiff,Nat.reduceLT,Nat.reduceBEq,Nat.reduceEqDiff,tfb,hz]
  refine ⟨by omega, by omega, by omega, ?_⟩
  refine loop_xu (O := O29) (tb := 0) Ct29_ok hmix (by kernel_rfl) (σ := Nat) (fun k => [(7, .own 13 3 1 ((cnL t.groups.length p k).map ic)), (8, .i k), (12, .any)]) (fun _ => []) (fun k => k ≤ f) (fun k => f - k) 0 (Nat.zero_le _) ?_ ?_
  · simp (maxSteps := 4000000) +contextual (disch := first | omega | exact qdb_ok (by kernel_rfl) | exact okb_ok (by kernel_rfl)) only [bw4,bw5,bw6,bc0,bc3,bc5,bc6,AV.isNilS,AV.isNoRows,wk,↓reduceIte,reduceCtorEq,eq_self]
    try rfl
  rintro k hk
  have hcl := cnL_len (n := t.groups.length) (p := p) (k := k)
  by_cases hlt : k < f
  · have hlt' : (k : Int) < f := by omega
    have hkp : k < p.length := by omega
    have hkp' : (k : Int) < p.length := by omega
    have hrw : (p.map ic).getD k [] = ic (p.getD k default) := Go.E.row_at hkp
    have hb := hpg k hlt
    by_cases d1 : 0 ≤ p.getD k default
    · obtain ⟨g, hgg⟩ : ∃ g : Nat, p.getD k default = (g : Int) := ⟨(p.getD k default).toNat, by omega⟩
      have hgn : g < t.groups.length := by omega
      have hgn' : (g : Int) < t.groups.length := by omega
      have hg0 : (0 : Int) ≤ (g : Int) := by omega
      have hrw2 : ((cnL t.groups.length p k).map ic).getD g [] = ic (cnG p k (g : Int) : Int) := by
        rw [Go.E.row_at (by omega), cnL_at hgn]
      have hle := cnG_le (p := p) (k := k) (g := (g : Int))
      have hs : ((cnL t.groups.length p k).map ic).set g [D.v (Value.int .i64 ((cnG p k (g : Int) : Int) + 1))] = (cnL t.groups.length p (k + 1)).map ic := by
        rw [cnL_yes hkp hgn hgg, List.map_set]
      simp (maxSteps := 4000000) +contextual (disch := first | omega | exact qdb_ok (by kernel_rfl) | exact okb_ok (by kernel_rfl)) only [bw1,bw2,bw3,bw4,bw5,bw6,bw7,bc0,bc1,bc2,bc3,bc4,bc5,bc6,AV.isNilS,AV.isNoRows,wk,binIs,idxV,AV.isSl,AV.rows,ps,pv,AV.upr,AV.menc,D.one,Value.oneCell',AV.dcells,D.cells?,↓reduceIte,reduceCtorEq,Nat.reduceAdd,Nat.reduceLeDiff,Nat.reduceEqDiff,tfb,qd_Ro,O29_6,eq_self, hlt', hkp', hrw, hgg, hg0, hgn', hcl, hrw2, hs]
      repeat (refine And.intro (by omega) ?_)
      exact ⟨k + 1, ⟨by omega, by omega⟩, rfl, rfl⟩
    · have hs := cnL_no (n := t.groups.length) hkp (by omega)
      simp (maxSteps := 4000000) +contextual (disch := first | omega | exact qdb_ok (by kernel_rfl) | exact okb_ok (by kernel_rfl)) only [bw1,bw2,bw4,bw5,bw6,bw7,bc0,bc1,bc2,bc3,bc4,bc5,bc6,AV.isNilS,AV.isNoRows,wk,binIs,idxV,AV.isSl,AV.rows,ps,pv,↓reduceIte,reduceCtorEq,Nat.reduceLeDiff,tfb,eq_self, hlt', hkp', hrw, d1]
      repeat (refine And.intro (by omega) ?_)
      exact ⟨k + 1, ⟨by omega, by omega⟩, by rw [hs], rfl⟩
  obtain rfl : k = f := by omega
  have hfl := ics_flat (cnL t.groups.length p k)
  simp (maxSteps := 4000000) +contextual (disch := first | omega | exact qdb_ok (by kernel_rfl) | exact okb_ok (by kernel_rfl)) only [bw1,bw2,bw5,bw6,bw7,bc0,bc1,bc2,bc3,bc4,bc5,bc6,binIs,↓reduceIte,reduceCtorEq,tfb,ro_r,ox_1,or_own,eq_self, Int.lt_irrefl]
def ent29 (args : List AV) (K : AV → List AV → Sto → Prop) (e : List AV) (s : Sto) : Prop := ento (α := (Tt) × (List Int) × (Nat)) 29001 3 1 (fun aa => [.agg aa.1.c, .sl 1 (aa.2.1.map ic), .i (aa.2.2 : Int)]) (fun aa => (aa.1.groups.length ≤ 1000 ∧ aa.2.2 ≤ aa.2.1.length ∧ aa.2.1.length ≤ 1000) ∧ ∀ j, j < aa.2.2 → -1 ≤ aa.2.1.getD j default ∧ aa.2.1.getD j default < aa.1.groups.length) (fun aa => ((cnL aa.1.groups.length aa.2.1 aa.2.2).map ic)) args K e s
theorem ent29_ok {args : List AV} {K : AV → List AV → Sto → Prop} {Q : Kt} {e : List AV} {s : Sto} (h : ent29 args K e s) : pcall Tryd.prog 29 args K Q e s := ento_ok (by decide) (fun aa h => pf29 aa.1 aa.2.1 aa.2.2 h) h
theorem eq29 {t : Tt} {p : List Int} {f : Nat} {KK : AV → List AV → Sto → Prop} {ee : List AV} {ss : Sto} : ent29 [.d (.agg t.c), .d (.sl 1 (p.map ic)), .d (.i (f : Int))] KK ee ss = (((t.groups.length ≤ 1000 ∧ f ≤ p.length ∧ p.length ≤ 1000) ∧ ∀ j, j < f → -1 ≤ p.getD j default ∧ p.getD j default < t.groups.length) ∧ KK (.own 29001 3 1 ((cnL t.groups.length p f).map ic)) (ee.map (AV.kill 29001)) (ss.kill 29001)) := by
  unfold ent29
  exact Eq.trans (ento_iff (t, p, f) (by intro b h; simpa [Prod.ext_iff, and_assoc, Int.ofNat_inj, ints_inj, hrs_inj, grs_inj, hr_inj, gr_inj, tt_inj] using h) rfl) (by simp)
end Go.Proofs.YtofbbkacihnjdaaDoor
