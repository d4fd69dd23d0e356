/- A part of the proof that the last text ends: what functions of the program do, told by plain data. -/
import Derived.Test.YtofbbkacihnjdaaDoorHKe
import Derived.Test.YtofbbkacihnjdaaDoorHKc
set_option linter.unusedVariables false
set_option linter.unusedSimpArgs false
namespace Go.Proofs.YtofbbkacihnjdaaDoor
open Go Go.E Go.Maps
set_option maxRecDepth 100000
set_option maxHeartbeats 4000000
def enQ (q p l : List Int) : Bool := l.all fun g => decide (p.getD g.toNat default ≤ (cnG q q.length g : Int))
theorem enQ_no {q p l : List Int} {i : Nat} (hi : i < l.length) (h : (cnG q q.length (l.getD i default) : Int) < p.getD (l.getD i default).toNat default) : enQ q p l = false := by
  refine Bool.eq_false_iff.2 fun e => ?_
  have := of_decide_eq_true (List.all_eq_true.1 e (l.getD i default) (by rw [at_lt hi]; exact List.getElem_mem _))
  omega
theorem enQ_yes {q p l : List Int} (h : ∀ i, i < l.length → p.getD (l.getD i default).toNat default ≤ (cnG q q.length (l.getD i default) : Int)) : enQ q p l = true := by
  unfold enQ
  rw [List.all_eq_true]
  intro g hg
  obtain ⟨i, hi, e⟩ := List.getElem_of_mem hg
  have := h i hi
  rw [at_lt hi, e] at this
  exact decide_eq_true this
def O49 : Nat → Sch := fun id => if id = 5 then .one 0 (.one 1 (.one 2 (.one 3 (.one 4 (.one 5 (.one 6 (.one 7 (.one 8 (.one 9 (.one 10 (.one 11 (.one 12 (.one 13 (.one 14 (.done))))))))))))))) else .done
theorem O49_5 : O49 5 = .one 0 (.one 1 (.one 2 (.one 3 (.one 4 (.one 5 (.one 6 (.one 7 (.one 8 (.one 9 (.one 10 (.one 11 (.one 12 (.one 13 (.one 14 (.done))))))))))))))) := rfl
theorem ho49 : Tryd.f49.body.map (okO O49) = some true := by kernel_rfl
def Cf49 : Nat → List AV → (AV → List AV → Sto → Prop) → Kt → List AV → Sto → Prop := fun f args K Q e s => match f with
  | 29 => ent29 args K e s
  | _ => False
def Ct49 : CT := { f := Cf49, y := noYld, z := fun d => false }
theorem Ct49_ok : Ct49.ok Tryd.prog := ok_of_f (fun f args K Q e s h => by
  have h : Cf49 f args K Q e s := h
  unfold Cf49 at h; split at h
  · exact ent29_ok h
  · exact h.elim) (fun _ _ _ _ _ _ _ _ _ h => h)
theorem x49_29 {t : Tt} {p : List Int} {f : Nat} {KK : AV → List AV → Sto → Prop} {QQ : Kt} {ii : At KK} {jj : At QQ} {ee : List AV} {ss : Sto} : xC Ct49 29 [.d (.agg t.c), .d (.sl 1 (p.map ic)), .d (.i (f : Int))] KK QQ ii jj ee ss = (((t.groups.length ≤ 1000 ∧ f ≤ p.length ∧ p.length ≤ 1000) ∧ ∀ j, j < f → -1 ≤ p.getD j default ∧ p.getD j default < t.groups.length) ∧ KK (.own 29001 3 1 ((cnL t.groups.length p f).map ic)) (ee.map (AV.kill 29001)) (ss.kill 29001)) := eq29
theorem c49 : callable Tryd.prog 49 = true := by kernel_rfl
theorem pf49 (t : Tt) (q p l : List Int) (h : (t.groups.length ≤ 1000 ∧ q.length ≤ 1000 ∧ l.length ≤ 1000) ∧ (p.length : Int) = t.groups.length ∧ foP t q ∧ ∀ i, i < l.length → 0 ≤ l.getD i default ∧ l.getD i default < t.groups.length) : PF Tryd.prog 49 [.agg t.c, .sl 1 (q.map ic), .sl 1 (p.map ic), .sl 1 (l.map ic)] (fun zz => zz = .ret (.b (enQ q p l))) := by
  obtain ⟨⟨h1, h2, h3⟩, h4, h5, h6⟩ := h
  have hqpre : (t.groups.length ≤ 1000 ∧ q.length ≤ q.length ∧ q.length ≤ 1000) ∧ ∀ j, j < q.length → -1 ≤ q.getD j default ∧ q.getD j default < t.groups.length := ⟨⟨h1, Nat.le_refl _, h2⟩, h5⟩
  obtain ⟨W, hW⟩ : ∃ W, W = enQ q p l := ⟨_, rfl⟩
  rw [← hW]
  have hcl : (cnL t.groups.length q q.length).length = t.groups.length := cnL_len
  refine PF_nil (PF_start (O := O49) Ct49_ok hmix ho49 Tryd.func49 c49 rfl Tryd.ntmps49 Tryd.results49 ?_)
  simp (maxSteps := 4000000) +contextual (disch := first | omega | exact qdb_ok (by kernel_rfl) | exact okb_ok (by kernel_rfl)) only [bw1,bw2,bw4,bw5,bw6,bc2,bc3,bc4,bc5,bc6,AV.isSlice,AV.rows,AV.dl,AV.cells?,↓reduceIte,reduceCtorEq,Nat.reduceAdd,Nat.reduceSub,List.reduceReplicate,Nat.reduceLeDiff,Nat.reduceLT,Nat.reduceBEq,Nat.reduceEqDiff,Int.reduceNeg,tfb,x49_29,hqpre]
  refine ⟨fun _ _ => trivial, ?_⟩
  refine loop_xu (O := O49) (tb := 0) Ct49_ok hmix (by kernel_rfl) (σ := Nat) (fun k => [(10, .i k)]) (fun _ => []) (fun k => k ≤ l.length ∧ ∀ i, i < k → p.getD (l.getD i default).toNat default ≤ (cnG q q.length (l.getD i default) : Int)) (fun k => l.length - k) 0 ⟨Nat.zero_le _, fun i hi => by omega⟩ ?_ ?_
  · simp (maxSteps := 4000000) +contextual (disch := first | omega | exact qdb_ok (by kernel_rfl) | exact okb_ok (by kernel_rfl)) only [bw4,bw5,bw6,bc0,bc3,bc5,bc6,AV.isNilS,AV.isNoRows,wk,↓reduceIte,reduceCtorEq,eq_self]
  intro k hk0
  have hk := hk0.1
  have hpr := hk0.2
  have hkk : (0 : Int) ≤ k := by omega
  by_cases hlt : k < l.length
  case neg =>
    have hlt' : ¬ (k : Int) < l.length := by omega
    have hWt : W = true := by rw [hW]; exact enQ_yes fun i hi => hpr i (by omega)
    simp (maxSteps := 4000000) +contextual (disch := first | omega | exact qdb_ok (by kernel_rfl) | exact okb_ok (by kernel_rfl)) only [bw1,bw2,bw3,bw4,bw5,bw6,bw7,bc0,bc1,bc2,bc3,bc4,bc5,bc6,binIs,AV.isSlice,AV.rows,AV.outs,AV.outF,packD,↓reduceIte,tfb,eq_self, hlt', hWt]
  have hlt' : (k : Int) < l.length := by omega
  have hHk := h6 k hlt
  obtain ⟨g, hg⟩ : ∃ g : Nat, l.getD k default = (g : Int) := ⟨(l.getD k default).toNat, by omega⟩
  have hgn : g < t.groups.length := by omega
  have hgp : g < p.length := by omega
  have hrH : (l.map ic).getD k [] = ic (g : Int) := by rw [Go.E.row_at hlt, hg]
  have hgp' : (g : Int) < p.length := by omega
  have hgc' : (g : Int) < t.groups.length := by omega
  have hg0 : (0 : Int) ≤ (g : Int) := by omega
  have hrp : (p.map ic).getD g [] = ic (p.getD g default) := Go.E.row_at hgp
  have hrc : ((cnL t.groups.length q q.length).map ic).getD g [] = ic (cnG q q.length (g : Int) : Int) := by
    rw [Go.E.row_at (by omega), cnL_at hgn]
  by_cases hc : (cnG q q.length (g : Int) : Int) < p.getD g default
  · have hWf : W = false := by
      rw [hW]; refine enQ_no hlt ?_
      rw [hg, Int.toNat_natCast]; exact hc
    simp (maxSteps := 4000000) +contextual (disch := first | omega | exact qdb_ok (by kernel_rfl) | exact okb_ok (by kernel_rfl)) only [bw1,bw2,bw3,bw4,bw5,bw6,bw7,bc0,bc1,bc2,bc3,bc4,bc5,bc6,binIs,idxV,AV.isSl,AV.isSlice,AV.rows,ps,pv,AV.outs,AV.outF,packD,↓reduceIte,Nat.reduceLeDiff,tfb,O49_5,eq_self, hlt', hkk, hrH, hgp', hgc', hg0, hrp, hrc, hcl, hc, hWf]
  · simp (maxSteps := 4000000) +contextual (disch := first | omega | exact qdb_ok (by kernel_rfl) | exact okb_ok (by kernel_rfl)) only [bw1,bw2,bw3,bw4,bw5,bw6,bw7,bc0,bc1,bc2,bc3,bc4,bc5,bc6,AV.isNilS,AV.isNoRows,wk,binIs,idxV,AV.isSl,AV.isSlice,AV.rows,ps,pv,↓reduceIte,reduceCtorEq,Nat.reduceLeDiff,tfb,O49_5,eq_self, hlt', hkk, hrH, hgp', hgc', hg0, hrp, hrc, hcl, hc]
    exact ⟨k + 1, ⟨⟨by omega, fun i hi => by
      rcases Nat.lt_succ_iff_lt_or_eq.1 hi with h | h
      · exact hpr i h
      · rw [h, hg, Int.toNat_natCast]; omega⟩, by omega⟩, rfl⟩
def slN (n h : Nat) (m : Int) : Nat → Nat → Bool
  | 0, _ => false
  | k + 1, y => if m < ((y * (n + 1) : Nat) : Int) ∧ (n : Int) ≤ 5 ∧ (h : Int) ≤ 12 then true else slN n h m k (y * (n + 1))
def slT (t : Tt) (m : Int) : Bool := lgT t || slN t.groups.length t.hours.length m t.hours.length 1
def ent49 (args : List AV) (K : AV → List AV → Sto → Prop) (e : List AV) (s : Sto) : Prop := ent (α := (Tt) × (List Int) × (List Int) × (List Int)) (fun aa => [.agg aa.1.c, .sl 1 (aa.2.1.map ic), .sl 1 (aa.2.2.1.map ic), .sl 1 (aa.2.2.2.map ic)]) (fun aa => (aa.1.groups.length ≤ 1000 ∧ aa.2.1.length ≤ 1000 ∧ aa.2.2.2.length ≤ 1000) ∧ (aa.2.2.1.length : Int) = aa.1.groups.length ∧ foP aa.1 aa.2.1 ∧ ∀ i, i < aa.2.2.2.length → 0 ≤ aa.2.2.2.getD i default ∧ aa.2.2.2.getD i default < aa.1.groups.length) (fun aa => .b (enQ aa.2.1 aa.2.2.1 aa.2.2.2)) args K e s
theorem ent49_ok {args : List AV} {K : AV → List AV → Sto → Prop} {Q : Kt} {e : List AV} {s : Sto} (h : ent49 args K e s) : pcall Tryd.prog 49 args K Q e s := ent_ok (fun aa h => pf49 aa.1 aa.2.1 aa.2.2.1 aa.2.2.2 h) h
theorem eq49 {t : Tt} {q : List Int} {p : List Int} {l : List Int} {KK : AV → List AV → Sto → Prop} {ee : List AV} {ss : Sto} : ent49 [.d (.agg t.c), .d (.sl 1 (q.map ic)), .d (.sl 1 (p.map ic)), .d (.sl 1 (l.map ic))] KK ee ss = (((t.groups.length ≤ 1000 ∧ q.length ≤ 1000 ∧ l.length ≤ 1000) ∧ (p.length : Int) = t.groups.length ∧ foP t q ∧ ∀ i, i < l.length → 0 ≤ l.getD i default ∧ l.getD i default < t.groups.length) ∧ KK (.d (.b (enQ q p l))) ee ss) := by
  unfold ent49; rw [ent_iff (t, q, p, l) (by intro b h; simpa [Prod.ext_iff, and_assoc, Int.ofNat_inj, ints_inj, hrs_inj, grs_inj, hr_inj, gr_inj, tt_inj, bcs_inj, cn_inj, sd_inj, Int.ofNat_inj, ints_inj, hrs_inj, grs_inj, hr_inj, gr_inj, tt_inj] using h) rfl]; simp
def O15 : Nat → Sch := fun id => .done
theorem ho15 : Tryd.f15.body.map (okO O15) = some true := by kernel_rfl
def Cf15 : Nat → List AV → (AV → List AV → Sto → Prop) → Kt → List AV → Sto → Prop := fun f args K Q e s => match f with
  | _ => False
def Ct15 : CT := { f := Cf15, y := noYld, z := fun d => false }
theorem Ct15_ok : Ct15.ok Tryd.prog := ok_of_f (fun f args K Q e s h => by
  have h : Cf15 f args K Q e s := h
  unfold Cf15 at h; split at h
  · exact h.elim) (fun _ _ _ _ _ _ _ _ _ h => h)
theorem c15 : callable Tryd.prog 15 = true := by kernel_rfl
theorem pf15 (t : Tt) (m : Int) : PF Tryd.prog 15 [.agg t.c, .i m] (fun zz => zz = .ret (.b (slT t m))) := by
  unfold slT lgT
  by_cases c1 : 8 < (t.groups.length : Int)
  · refine PF_nil (PF_start (O := O15) Ct15_ok hmix ho15 Tryd.func15 c15 rfl Tryd.ntmps15 Tryd.results15 ?_)
    simp (maxSteps := 4000000) +contextual (disch := first | omega | exact qdb_ok (by kernel_rfl) | exact okb_ok (by kernel_rfl)) only [bw1,bw2,bw3,bw4,bw5,bw6,bw7,bc0,bc1,bc2,bc3,bc4,bc5,bc6,bc7,binIs,addF,AV.isPtr,AV.isSlice,AV.rows,AV.outs,AV.outF,packD,AV.cells?,↓reduceIte,reduceCtorEq,Nat.reduceAdd,Nat.reduceSub,List.reduceReplicate,Nat.reduceLeDiff,Nat.reduceLT,tfb,c1]
    try simp [c1]
  by_cases c2 : 14 < (t.hours.length : Int)
  · refine PF_nil (PF_start (O := O15) Ct15_ok hmix ho15 Tryd.func15 c15 rfl Tryd.ntmps15 Tryd.results15 ?_)
    simp (maxSteps := 4000000) +contextual (disch := first | omega | exact qdb_ok (by kernel_rfl) | exact okb_ok (by kernel_rfl)) only [bw1,bw2,bw3,bw4,bw5,bw6,bw7,bc0,bc1,bc2,bc3,bc4,bc5,bc6,bc7,binIs,addF,AV.isPtr,AV.isSlice,AV.rows,AV.outs,AV.outF,packD,AV.cells?,↓reduceIte,reduceCtorEq,Nat.reduceAdd,Nat.reduceSub,List.reduceReplicate,Nat.reduceLeDiff,Nat.reduceLT,tfb,c1, c2]
    try simp [c1, c2]
  rw [decide_eq_false c1, decide_eq_false c2, Bool.false_or, Bool.false_or]
  obtain ⟨W, hW⟩ : ∃ W, slN t.groups.length t.hours.length m t.hours.length 1 = W := ⟨_, rfl⟩
  rw [hW]
  refine PF_nil (PF_start (O := O15) Ct15_ok hmix ho15 Tryd.func15 c15 rfl Tryd.ntmps15 Tryd.results15 ?_)
  simp (maxSteps := 4000000) +contextual (disch := first | omega | exact qdb_ok (by kernel_rfl) | exact okb_ok (by kernel_rfl)) only [bw1,bw2,bw3,bw4,bw5,bw6,bw7,bc0,bc1,bc2,bc3,bc4,bc5,bc6,binIs,addF,AV.isPtr,AV.isSlice,AV.rows,AV.cells?,↓reduceIte,reduceCtorEq,Nat.reduceAdd,Nat.reduceSub,List.reduceReplicate,Nat.reduceLeDiff,Nat.reduceLT,tfb,c1, c2]
  refine loop_xu (O := O15) (tb := 0) Ct15_ok hmix (by kernel_rfl) (σ := Nat × Nat) (fun x => [(5, .i (x.2 : Int)), (6, .i x.1)]) (fun _ => []) (fun x => x.1 ≤ t.hours.length ∧ x.2 ≤ 9 ^ x.1 ∧ slN t.groups.length t.hours.length m (t.hours.length - x.1) x.2 = W) (fun x => t.hours.length - x.1) (0, 1) ⟨Nat.zero_le _, Nat.le_refl _, hW⟩ ?_ ?_
  · simp (maxSteps := 4000000) +contextual (disch := first | omega | exact qdb_ok (by kernel_rfl) | exact okb_ok (by kernel_rfl)) only [bw4,bw5,bw6,bc0,bc3,bc5,bc6,AV.isNilS,AV.isNoRows,wk,↓reduceIte,reduceCtorEq,eq_self]
    try first | rfl | exact ⟨rfl, rfl⟩
  rintro ⟨i, y⟩ hx
  dsimp only at hx ⊢
  have hi := hx.1
  have hy := hx.2.1
  have hw := hx.2.2
  by_cases hlt : i < t.hours.length
  case neg =>
    have hlt' : ¬ (i : Int) < t.hours.length := by omega
    rw [show t.hours.length - i = 0 by omega] at hw
    have hWf : W = false := hw.symm
    simp (maxSteps := 4000000) +contextual (disch := first | omega | exact qdb_ok (by kernel_rfl) | exact okb_ok (by kernel_rfl)) only [bw1,bw2,bw3,bw4,bw5,bw6,bw7,bc0,bc1,bc2,bc3,bc4,bc5,bc6,binIs,addF,AV.isPtr,AV.isSlice,AV.rows,AV.outs,AV.outF,packD,↓reduceIte,reduceCtorEq,Nat.reduceAdd,Nat.reduceLeDiff,tfb,eq_self, hlt', hWf]
  have hlt' : (i : Int) < t.hours.length := by omega
  have h9 : 9 ^ i ≤ 9 ^ 14 := Nat.pow_le_pow_right (by decide) (by omega)
  have h9v : (9 : Nat) ^ 14 = 22876792454961 := by decide
  obtain ⟨z, hz⟩ : ∃ z, y * (t.groups.length + 1) = z := ⟨_, rfl⟩
  have hz9 : z ≤ 9 ^ (i + 1) := by
    rw [← hz, Nat.pow_succ]; exact Nat.mul_le_mul hy (by omega)
  have hzb : z ≤ 205891132094649 := by
    rw [← hz]; exact Nat.le_trans (Nat.mul_le_mul (Nat.le_trans hy h9) (show t.groups.length + 1 ≤ 9 by omega)) (by decide)
  have hmul : (y : Int) * ((t.groups.length : Int) + 1) = (z : Int) := by rw [← hz]; push_cast; rfl
  rw [show t.hours.length - i = (t.hours.length - (i + 1)) + 1 by omega, slN, hz] at hw
  by_cases d1 : m < (z : Int)
  case neg =>
    rw [if_neg (fun h => d1 h.1)] at hw
    simp (maxSteps := 4000000) +contextual (disch := first | omega | exact qdb_ok (by kernel_rfl) | exact okb_ok (by kernel_rfl)) only [bw1,bw2,bw3,bw4,bw5,bw6,bw7,bc0,bc1,bc2,bc3,bc4,bc5,bc6,AV.isNilS,AV.isNoRows,wk,binIs,addF,AV.isPtr,AV.isSlice,AV.rows,↓reduceIte,reduceCtorEq,Nat.reduceAdd,Nat.reduceLeDiff,tfb,eq_self, hlt', hmul, d1]
    exact ⟨(i + 1, z), ⟨⟨by dsimp only; omega, hz9, hw⟩, by dsimp only; omega⟩, rfl, rfl⟩
  by_cases d2 : (t.groups.length : Int) ≤ 5
  case neg =>
    rw [if_neg (fun h => d2 h.2.1)] at hw
    simp (maxSteps := 4000000) +contextual (disch := first | omega | exact qdb_ok (by kernel_rfl) | exact okb_ok (by kernel_rfl)) only [bw1,bw2,bw3,bw4,bw5,bw6,bw7,bc0,bc1,bc2,bc3,bc4,bc5,bc6,AV.isNilS,AV.isNoRows,wk,binIs,addF,AV.isPtr,AV.isSlice,AV.rows,↓reduceIte,reduceCtorEq,Nat.reduceAdd,Nat.reduceLeDiff,tfb,eq_self, hlt', hmul, d1, d2]
    exact ⟨(i + 1, z), ⟨⟨by dsimp only; omega, hz9, hw⟩, by dsimp only; omega⟩, rfl, rfl⟩
  by_cases d3 : (t.hours.length : Int) ≤ 12
  case neg =>
    rw [if_neg (fun h => d3 h.2.2)] at hw
    simp (maxSteps := 4000000) +contextual (disch := first | omega | exact qdb_ok (by kernel_rfl) | exact okb_ok (by kernel_rfl)) only [bw1,bw2,bw3,bw4,bw5,bw6,bw7,bc0,bc1,bc2,bc3,bc4,bc5,bc6,AV.isNilS,AV.isNoRows,wk,binIs,addF,AV.isPtr,AV.isSlice,AV.rows,↓reduceIte,reduceCtorEq,Nat.reduceAdd,Nat.reduceLeDiff,tfb,eq_self, hlt', hmul, d1, d2, d3]
    exact ⟨(i + 1, z), ⟨⟨by dsimp only; omega, hz9, hw⟩, by dsimp only; omega⟩, rfl, rfl⟩
  rw [if_pos ⟨d1, d2, d3⟩] at hw
  have hWt : W = true := hw.symm
  simp (maxSteps := 4000000) +contextual (disch := first | omega | exact qdb_ok (by kernel_rfl) | exact okb_ok (by kernel_rfl)) only [bw1,bw2,bw3,bw4,bw5,bw6,bw7,bc0,bc1,bc2,bc3,bc4,bc5,bc6,binIs,addF,AV.isPtr,AV.isSlice,AV.rows,AV.outs,AV.outF,packD,↓reduceIte,reduceCtorEq,Nat.reduceAdd,Nat.reduceLeDiff,tfb,eq_self, hlt', hmul, d1, d2, d3, hWt]
def ent15 (args : List AV) (K : AV → List AV → Sto → Prop) (e : List AV) (s : Sto) : Prop := ent (α := (Tt) × (Int)) (fun aa => [.agg aa.1.c, .i aa.2]) (fun aa => True) (fun aa => .b (slT aa.1 aa.2)) args K e s
theorem ent15_ok {args : List AV} {K : AV → List AV → Sto → Prop} {Q : Kt} {e : List AV} {s : Sto} (h : ent15 args K e s) : pcall Tryd.prog 15 args K Q e s := ent_ok (fun aa h => pf15 aa.1 aa.2) h
theorem eq15 {t : Tt} {m : Int} {KK : AV → List AV → Sto → Prop} {ee : List AV} {ss : Sto} : ent15 [.d (.agg t.c), .d (.i m)] KK ee ss = (KK (.d (.b (slT t m))) ee ss) := by
  unfold ent15; rw [ent_iff (t, m) (by intro b h; simpa [Prod.ext_iff, and_assoc, Int.ofNat_inj, ints_inj, hrs_inj, grs_inj, hr_inj, gr_inj, tt_inj, bcs_inj, cn_inj, sd_inj, Int.ofNat_inj, ints_inj, hrs_inj, grs_inj, hr_inj, gr_inj, tt_inj] using h) rfl]; simp
end Go.Proofs.YtofbbkacihnjdaaDoor
