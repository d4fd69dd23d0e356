/- A part of the proof that the last text ends: what functions of the program do, told by plain data. -/
import Derived.Test.YtapglfcaghlpfaaGreatZSF
set_option linter.unusedVariables false
set_option linter.unusedSimpArgs false
namespace Go.Proofs.YtapglfcaghlpfaaGreat
open Go Go.E Go.Maps
set_option maxRecDepth 100000
set_option maxHeartbeats 16000000
def csum (l : List Int) : Nat → Int
  | 0 => 0
  | k + 1 => csum l k + l.getD k default
def cmax (l : List Int) : Nat → Int
  | 0 => l.getD 0 default
  | k + 1 => max (cmax l k) (l.getD k default)
def cmin (l : List Int) : Nat → Int
  | 0 => l.getD 0 default
  | k + 1 => min (cmin l k) (l.getD k default)
def cnts (l : List Int) : Int × Int := if 5 ≤ (l.length : Int) then (csum l l.length - cmax l l.length - cmin l l.length, l.length - 2) else (csum l l.length, l.length)
structure Mks (l : List Int) : Prop where
  len : 1 ≤ l.length ∧ l.length ≤ 1000
  el : ∀ x ∈ l, -1000 ≤ x ∧ x ≤ 1000
theorem Mks.at {l : List Int} (h : Mks l) {i : Nat} (hi : i < l.length) : -1000 ≤ l.getD i default ∧ l.getD i default ≤ 1000 := by
  rw [at_lt hi]; exact h.el _ (List.getElem_mem _)
theorem c_b {l : List Int} (h : Mks l) : ∀ k, k ≤ l.length → (-1000 * (k : Int) ≤ csum l k ∧ csum l k ≤ 1000 * k) ∧ (-1000 ≤ cmax l k ∧ cmax l k ≤ 1000) ∧ -1000 ≤ cmin l k ∧ cmin l k ≤ 1000
  | 0, _ => by
    have := h.at (i := 0) (by have := h.len; omega)
    unfold csum cmax cmin; omega
  | k + 1, hk => by
    have ih := c_b h k (by omega)
    have := h.at (i := k) (by omega)
    unfold csum cmax cmin; omega
def O60 : Nat → Sch := fun id => if id = 1 then .one 0 (.one 1 (.one 2 (.one 3 (.one 4 (.one 5 (.one 6 (.one 7 (.one 8 (.done))))))))) else .done
theorem O60_1 : O60 1 = .one 0 (.one 1 (.one 2 (.one 3 (.one 4 (.one 5 (.one 6 (.one 7 (.one 8 (.done))))))))) := rfl
theorem ho60 : Tryz.f60.body.map (okO O60) = some true := by kernel_rfl
def Cf60 : Nat → List AV → (AV → List AV → Sto → Prop) → Kt → List AV → Sto → Prop := fun f args K Q e s => match f with
  | _ => False
def Ct60 : CT := { f := Cf60, y := noYld, z := fun d => false }
theorem Ct60_ok : Ct60.ok Tryz.prog := ok_of_f (fun f args K Q e s h => by
  have h : Cf60 f args K Q e s := h
  unfold Cf60 at h; split at h
  · exact h.elim) (fun _ _ _ _ _ _ _ _ _ h => h)
theorem c60 : callable Tryz.prog 60 = true := by kernel_rfl
theorem pf60 (l : List Int) (h : Mks l) : PF Tryz.prog 60 [.sl 1 (l.map ic)] (fun zz => zz = .ret (.tup [.i (cnts l).1, .i (cnts l).2])) := by
  have hl := h.len
  have hat := fun i hi => h.at (i := i) hi
  have hb := c_b h
  have s0 : csum l 0 = 0 := rfl
  have m0 : cmax l 0 = l.getD 0 default := rfl
  have n0 : cmin l 0 = l.getD 0 default := rfl
  have s1 : ∀ k, csum l (k + 1) = csum l k + l.getD k default := fun k => rfl
  have m1 : ∀ k, cmax l (k + 1) = max (cmax l k) (l.getD k default) := fun k => rfl
  have n1 : ∀ k, cmin l (k + 1) = min (cmin l k) (l.getD k default) := fun k => rfl
  have hc : cnts l = if 5 ≤ (l.length : Int) then (csum l l.length - cmax l l.length - cmin l l.length, (l.length : Int) - 2) else (csum l l.length, (l.length : Int)) := rfl
  rw [hc]
  clear hc
  generalize csum l = S at *
  generalize cmax l = M at *
  generalize cmin l = N at *
  have hl0 : (0 : Int) < l.length := by omega
  refine PF_nil (PF_start (O := O60) Ct60_ok hmix ho60 Tryz.func60 c60 rfl Tryz.ntmps60 Tryz.results60 ?_)
  simp (maxSteps := 4000000) +contextual (disch := first | omega | exact qdb_ok (by kernel_rfl) | exact okb_ok (by kernel_rfl)) only [bw1,bw2,bw3,bw4,bw5,bw6,bc2,bc4,bc5,idxV,AV.isSl,AV.rows,ps,pv,↓reduceIte,Nat.reduceSub,List.reduceReplicate,Nat.reduceLeDiff,Int.reduceLE,tfb,O60_1,hl0, Int.toNat_zero]
  refine loop_s (O := O60) (tb := 0) Ct60_ok hmix (by kernel_rfl) (σ := Nat) (fun i => [(4, .i (S i)), (5, .i (M i)), (6, .i (N i)), (7, .i i)]) (fun i => i ≤ l.length) (fun i => l.length - i) (fun i => i + 1) 0 (by omega) ?_ ?_
  · simp (maxSteps := 4000000) +contextual (disch := first | omega | exact qdb_ok (by kernel_rfl) | exact okb_ok (by kernel_rfl)) only [bw4,bw6,bc0,bc5,bc6,AV.isNilS,AV.isNoRows,wk,reduceCtorEq,s0, m0, n0]
  intro i hi
  have hbi := hb i hi
  by_cases hlt : i < l.length
  · have hlt' : (i : Int) < l.length := by omega
    have a1 := hat i hlt
    have s1i := s1 i
    have m1i := m1 i
    have n1i := n1 i
    simp (maxSteps := 4000000) +contextual (disch := first | omega | exact qdb_ok (by kernel_rfl) | exact okb_ok (by kernel_rfl)) only [bw1,bw2,bw4,bw5,bw6,bw7,bc0,bc1,bc2,bc3,bc4,bc5,bc6,AV.isNilS,AV.isNoRows,wk,binIs,idxV,AV.isSl,AV.isSlice,AV.rows,ps,pv,↓reduceIte,reduceCtorEq,Nat.reduceLeDiff,tfb,eq_self, hlt', s1i, m1i, n1i]
    omega
  · have hlt' : ¬ (i : Int) < l.length := by omega
    obtain rfl : i = l.length := by omega
    by_cases c : 5 ≤ (l.length : Int)
    · rw [if_pos c]
      simp (maxSteps := 4000000) +contextual (disch := first | omega | exact qdb_ok (by kernel_rfl) | exact okb_ok (by kernel_rfl)) only [bw1,bw2,bw3,bw4,bw5,bw6,bw7,bc0,bc1,bc2,bc3,bc4,bc5,bc6,binIs,AV.isSlice,AV.rows,AV.outs,AV.outF,packD,↓reduceIte,tfb,eq_self, hlt', c]
    · rw [if_neg c]
      simp (maxSteps := 4000000) +contextual (disch := first | omega | exact qdb_ok (by kernel_rfl) | exact okb_ok (by kernel_rfl)) only [bw1,bw2,bw3,bw4,bw5,bw6,bw7,bc0,bc1,bc2,bc3,bc4,bc5,bc6,binIs,AV.isSlice,AV.rows,AV.outs,AV.outF,packD,↓reduceIte,tfb,eq_self, hlt', c]
def ent60 (args : List AV) (K : AV → List AV → Sto → Prop) (e : List AV) (s : Sto) : Prop := ent (α := (List Int)) (fun aa => [.sl 1 (aa.map ic)]) (fun aa => Mks aa) (fun aa => .tup [.i (cnts aa).1, .i (cnts aa).2]) args K e s
theorem ent60_ok {args : List AV} {K : AV → List AV → Sto → Prop} {Q : Kt} {e : List AV} {s : Sto} (h : ent60 args K e s) : pcall Tryz.prog 60 args K Q e s := ent_ok (fun aa h => pf60 aa h) h
theorem eq60 {l : List Int} {KK : AV → List AV → Sto → Prop} {ee : List AV} {ss : Sto} : ent60 [.d (.sl 1 (l.map ic))] KK ee ss = ((Mks l) ∧ KK (.d (.tup [.i (cnts l).1, .i (cnts l).2])) ee ss) := by
  unfold ent60; rw [ent_iff l (by intro b h; simpa [Prod.ext_iff, and_assoc, Int.ofNat_inj, ints_inj, cals_inj, pcs_inj, skas_inj, scos_inj, ska_inj, rul_inj, sco_inj, cal_inj] using h) rfl]; simp
def O12 : Nat → Sch := fun id => if id = 6 then .one 0 (.one 1 (.one 2 (.one 3 (.one 4 (.one 5 (.one 6 (.one 7 (.one 8 (.done))))))))) else .done
theorem O12_6 : O12 6 = .one 0 (.one 1 (.one 2 (.one 3 (.one 4 (.one 5 (.one 6 (.one 7 (.one 8 (.done))))))))) := rfl
theorem ho12 : Tryz.f12.body.map (okO O12) = some true := by kernel_rfl
def Cf12 : Nat → List AV → (AV → List AV → Sto → Prop) → Kt → List AV → Sto → Prop := fun f args K Q e s => match f with
  | _ => False
def Ct12 : CT := { f := Cf12, y := noYld, z := fun d => false }
theorem Ct12_ok : Ct12.ok Tryz.prog := ok_of_f (fun f args K Q e s h => by
  have h : Cf12 f args K Q e s := h
  unfold Cf12 at h; split at h
  · exact h.elim) (fun _ _ _ _ _ _ _ _ _ h => h)
theorem c12 : callable Tryz.prog 12 = true := by kernel_rfl
theorem pf12 (a b : List Int) (h : a.length ≤ 1000000) : PF Tryz.prog 12 [.sl 1 (a.map ic), .sl 1 (b.map ic)] (fun zz => zz = .ret (.b (decide (a = b)))) := by
  by_cases c : a.length = b.length
  case neg =>
    have c' : ¬ (a.length : Int) = b.length := by omega
    have hw : decide (a = b) = false := decide_eq_false fun h => c (by rw [h])
    rw [hw]
    refine PF_nil (PF_start (O := O12) Ct12_ok hmix ho12 Tryz.func12 c12 rfl Tryz.ntmps12 Tryz.results12 ?_)
    simp (maxSteps := 4000000) +contextual (disch := first | omega | exact qdb_ok (by kernel_rfl) | exact okb_ok (by kernel_rfl)) only [bw1,bw2,bw3,bw4,bw5,bw6,bc1,bc2,bc3,bc4,bc5,bc6,binIs,AV.isSlice,AV.rows,AV.outs,AV.outF,packD,↓reduceIte,Nat.reduceAdd,Nat.reduceSub,List.reduceReplicate,tfb,c']
  have c' : (a.length : Int) = b.length := by omega
  refine PF_nil (PF_start (O := O12) Ct12_ok hmix ho12 Tryz.func12 c12 rfl Tryz.ntmps12 Tryz.results12 ?_)
  simp (maxSteps := 4000000) +contextual (disch := first | omega | exact qdb_ok (by kernel_rfl) | exact okb_ok (by kernel_rfl)) only [bw1,bw2,bw4,bw5,bw6,bc1,bc4,bc5,bc6,binIs,AV.isSlice,AV.rows,↓reduceIte,Nat.reduceAdd,Nat.reduceSub,List.reduceReplicate,tfb,c']
  refine loop_s (O := O12) (tb := 0) Ct12_ok hmix (by kernel_rfl) (σ := Nat) (fun i => [(5, .i i)]) (fun i => i ≤ a.length ∧ ∀ j, j < i → a.getD j default = b.getD j default) (fun i => a.length - i) (fun i => i + 1) 0 ⟨by omega, fun j h => by omega⟩ ?_ ?_
  · simp (maxSteps := 4000000) +contextual (disch := first | omega | exact qdb_ok (by kernel_rfl) | exact okb_ok (by kernel_rfl)) only [bw4,bw6,bc0,bc5,bc6,AV.isNilS,AV.isNoRows,wk,reduceCtorEq]
  rintro i ⟨hi, hf⟩
  by_cases hlt : i < a.length
  · have hlt' : (i : Int) < b.length := by omega
    have hlt2 : (i : Int) < a.length := by omega
    by_cases d : a.getD i default = b.getD i default
    · have hf' : ∀ j, j < i + 1 → a.getD j default = b.getD j default := fun j hj => by
        rcases Nat.lt_or_ge j i with h | h
        · exact hf j h
        · rw [show j = i by omega]; exact d
      simp (maxSteps := 4000000) +contextual (disch := first | omega | exact qdb_ok (by kernel_rfl) | exact okb_ok (by kernel_rfl)) only [bw1,bw2,bw3,bw4,bw5,bw6,bw7,bc0,bc1,bc2,bc3,bc4,bc5,bc6,AV.isNilS,AV.isNoRows,wk,binIs,idxV,AV.isSl,AV.isSlice,AV.rows,ps,pv,↓reduceIte,reduceCtorEq,Nat.reduceLeDiff,tfb,O12_6,eq_self, hlt', c', d]
      and_intros <;> first | omega | exact hf'
    · have hw : decide (a = b) = false := decide_eq_false fun h => d (by rw [h])
      simp (maxSteps := 4000000) +contextual (disch := first | omega | exact qdb_ok (by kernel_rfl) | exact okb_ok (by kernel_rfl)) only [bw1,bw2,bw3,bw4,bw5,bw6,bw7,bc0,bc1,bc2,bc3,bc4,bc5,bc6,binIs,idxV,AV.isSl,AV.isSlice,AV.rows,ps,pv,AV.outs,AV.outF,packD,↓reduceIte,Nat.reduceLeDiff,tfb,O12_6,eq_self, hlt', c', d, hw]
      and_intros <;> first | omega | rfl
  · have hlt' : ¬ (i : Int) < b.length := by omega
    have hlt2 : ¬ (i : Int) < a.length := by omega
    have hw : decide (a = b) = true := decide_eq_true (List.ext_getElem c fun j h1 h2 => by
      have := hf j (by omega)
      rwa [at_lt h1, at_lt h2] at this)
    simp (maxSteps := 4000000) +contextual (disch := first | omega | exact qdb_ok (by kernel_rfl) | exact okb_ok (by kernel_rfl)) only [bw1,bw2,bw3,bw4,bw5,bw6,bw7,bc0,bc1,bc2,bc3,bc4,bc5,bc6,binIs,AV.isSlice,AV.rows,AV.outs,AV.outF,packD,↓reduceIte,tfb,eq_self, hlt', c', hw]
def ent12 (args : List AV) (K : AV → List AV → Sto → Prop) (e : List AV) (s : Sto) : Prop := ent (α := (List Int) × (List Int)) (fun aa => [.sl 1 (aa.1.map ic), .sl 1 (aa.2.map ic)]) (fun aa => aa.1.length ≤ 1000000) (fun aa => .b (decide (aa.1 = aa.2))) args K e s
theorem ent12_ok {args : List AV} {K : AV → List AV → Sto → Prop} {Q : Kt} {e : List AV} {s : Sto} (h : ent12 args K e s) : pcall Tryz.prog 12 args K Q e s := ent_ok (fun aa h => pf12 aa.1 aa.2 h) h
theorem eq12 {a : List Int} {b : List Int} {KK : AV → List AV → Sto → Prop} {ee : List AV} {ss : Sto} : ent12 [.d (.sl 1 (a.map ic)), .d (.sl 1 (b.map ic))] KK ee ss = ((a.length ≤ 1000000) ∧ KK (.d (.b (decide (a = b)))) ee ss) := by
  unfold ent12; rw [ent_iff (a, b) (by intro b h; simpa [Prod.ext_iff, and_assoc, Int.ofNat_inj, ints_inj, cals_inj, pcs_inj, skas_inj, scos_inj, ska_inj, rul_inj, sco_inj, cal_inj] using h) rfl]; simp
end Go.Proofs.YtapglfcaghlpfaaGreat
