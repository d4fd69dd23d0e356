/- A part of the proof that the last text ends: what functions of the program do, told by plain data. -/
import Derived.Test.YtapglfcaghlpfaaGreatZSB
set_option linter.unusedVariables false
set_option linter.unusedSimpArgs false
namespace Go.Proofs.YtapglfcaghlpfaaGreat
open Go Go.E
set_option maxRecDepth 100000
set_option maxHeartbeats 8000000
def judN (l : List Ska) : Nat → Nat → Int × Bool
  | 0, _ => (0, false)
  | k + 1, i => if 0 < (l.getD i default).calls.length then ((((l.getD i default).calls.getD 0 default).marks.length : Int), true) else if 0 < (l.getD i default).parts.length then (((l.getD i default).parts.getD 0 default).length, true) else judN l k (i + 1)
def jud (l : List Ska) : Int × Bool := judN l l.length 0
def O22 : Nat → Sch := fun id => .done
theorem ho22 : Tryz.f22.body.map (okO O22) = some true := by kernel_rfl
def Cf22 : Nat → List AV → (AV → List AV → Sto → Prop) → Kt → List AV → Sto → Prop := fun f args K Q e s => match f with
  | _ => False
def Ct22 : CT := { f := Cf22, y := noYld, z := fun d => false }
theorem Ct22_ok : Ct22.ok Tryz.prog := ok_of_f (fun f args K Q e s h => by
  have h : Cf22 f args K Q e s := h
  unfold Cf22 at h; split at h
  · exact h.elim) (fun _ _ _ _ _ _ _ _ _ h => h)
theorem c22 : callable Tryz.prog 22 = true := by kernel_rfl
theorem pf22 (l : List Ska) (h : l.length ≤ 1000) : PF Tryz.prog 22 [.sl 3 (l.map Ska.c)] (fun zz => zz = .ret (.tup [.i (jud l).1, .b (jud l).2])) := by
  refine PF_nil (PF_start (O := O22) Ct22_ok hmix ho22 Tryz.func22 c22 rfl Tryz.ntmps22 Tryz.results22 ?_)
  simp (maxSteps := 4000000) +contextual (disch := first | omega | exact qdb_ok (by kernel_rfl) | exact okb_ok (by kernel_rfl)) only [bw1,bw2,bw4,bw5,bw6,bc4,bc5,AV.isSlice,AV.rows,↓reduceIte,Nat.reduceSub,List.reduceReplicate,tfb]
  refine loop_s (O := O22) (tb := 0) Ct22_ok hmix (by kernel_rfl) (σ := Nat) (fun i => [(5, .any), (8, .i i)]) (fun i => i ≤ l.length ∧ judN l (l.length - i) i = jud l) (fun i => l.length - i) (fun i => i + 1) 0 ⟨by omega, rfl⟩ ?_ ?_
  · simp (maxSteps := 4000000) +contextual (disch := first | omega | exact qdb_ok (by kernel_rfl) | exact okb_ok (by kernel_rfl)) only [bw4,bw6,bc0,bc5,bc6,AV.isNilS,AV.isNoRows,wk,reduceCtorEq]
  rintro i ⟨hi, hw⟩
  by_cases hlt : i < l.length
  · have hlt' : (i : Int) < l.length := by omega
    rw [show l.length - i = (l.length - (i + 1)) + 1 by omega, judN] at hw
    by_cases c1 : 0 < (l.getD i default).calls.length
    · rw [if_pos c1] at hw
      have c1' : (0 : Int) < (l.getD i default).calls.length := by omega
      simp (maxSteps := 4000000) +contextual (disch := first | omega | exact qdb_ok (by kernel_rfl) | exact okb_ok (by kernel_rfl)) only [bw1,bw2,bw3,bw4,bw5,bw6,bw7,bc0,bc1,bc2,bc3,bc4,bc5,bc6,binIs,addF,AV.isPtr,idxV,AV.isSl,AV.isSlice,AV.rows,ps,pv,AV.outs,AV.outF,packD,AV.cells?,AV.menc,AV.one,D.one,Value.oneCell',↓reduceIte,reduceCtorEq,Nat.reduceAdd,Nat.reduceLeDiff,Nat.reduceLT,Int.reduceLE,tfb,eq_self, hlt', c1', ← hw, Int.toNat_zero]
      omega
    · rw [if_neg c1] at hw
      have c1' : ¬ (0 : Int) < (l.getD i default).calls.length := by omega
      by_cases c2 : 0 < (l.getD i default).parts.length
      · rw [if_pos c2] at hw
        have c2' : (0 : Int) < (l.getD i default).parts.length := by omega
        simp (maxSteps := 4000000) +contextual (disch := first | omega | exact qdb_ok (by kernel_rfl) | exact okb_ok (by kernel_rfl)) only [bw1,bw2,bw3,bw4,bw5,bw6,bw7,bc0,bc1,bc2,bc3,bc4,bc5,bc6,binIs,addF,AV.isPtr,idxV,AV.isSl,AV.isSlice,AV.rows,ps,pv,AV.outs,AV.outF,packD,AV.cells?,AV.menc,AV.one,D.one,Value.oneCell',↓reduceIte,reduceCtorEq,Nat.reduceAdd,Nat.reduceLeDiff,Nat.reduceLT,Int.reduceLE,tfb,eq_self, hlt', c1', c2', ← hw, Int.toNat_zero]
        omega
      · rw [if_neg c2] at hw
        have c2' : ¬ (0 : Int) < (l.getD i default).parts.length := by omega
        simp (maxSteps := 4000000) +contextual (disch := first | omega | exact qdb_ok (by kernel_rfl) | exact okb_ok (by kernel_rfl)) only [bw1,bw2,bw4,bw5,bw6,bw7,bc0,bc1,bc2,bc3,bc4,bc5,bc6,AV.isNilS,AV.isNoRows,wk,binIs,addF,AV.isPtr,idxV,AV.isSl,AV.isSlice,AV.rows,ps,pv,AV.cells?,AV.menc,AV.one,D.one,Value.oneCell',↓reduceIte,reduceCtorEq,Nat.reduceAdd,Nat.reduceLeDiff,Nat.reduceLT,tfb,eq_self, hlt', c1', c2']
        and_intros <;> first | omega | exact hw
  · have hlt' : ¬ (i : Int) < l.length := by omega
    rw [show l.length - i = 0 by omega, judN] at hw
    simp (maxSteps := 4000000) +contextual (disch := first | omega | exact qdb_ok (by kernel_rfl) | exact okb_ok (by kernel_rfl)) only [bw1,bw2,bw3,bw5,bw6,bw7,bc0,bc1,bc2,bc3,bc4,bc5,bc6,binIs,AV.outs,AV.outF,packD,↓reduceIte,tfb,eq_self, hlt', ← hw]
def ent22 (args : List AV) (K : AV → List AV → Sto → Prop) (e : List AV) (s : Sto) : Prop := ent (α := (List Ska)) (fun aa => [.sl 3 (aa.map Ska.c)]) (fun aa => aa.length ≤ 1000) (fun aa => .tup [.i (jud aa).1, .b (jud aa).2]) args K e s
theorem ent22_ok {args : List AV} {K : AV → List AV → Sto → Prop} {Q : Kt} {e : List AV} {s : Sto} (h : ent22 args K e s) : pcall Tryz.prog 22 args K Q e s := ent_ok (fun aa h => pf22 aa h) h
theorem eq22 {l : List Ska} {KK : AV → List AV → Sto → Prop} {ee : List AV} {ss : Sto} : ent22 [.d (.sl 3 (l.map Ska.c))] KK ee ss = ((l.length ≤ 1000) ∧ KK (.d (.tup [.i (jud l).1, .b (jud l).2])) ee ss) := by
  unfold ent22; rw [ent_iff l (by intro b h; simpa [Prod.ext_iff, and_assoc, Int.ofNat_inj, ints_inj, cals_inj, pcs_inj, skas_inj, scos_inj, ska_inj, rul_inj, sco_inj, cal_inj] using h) rfl]; simp
def O27 : Nat → Sch := fun id => .done
theorem ho27 : Tryz.f27.body.map (okO O27) = some true := by kernel_rfl
def Cf27 : Nat → List AV → (AV → List AV → Sto → Prop) → Kt → List AV → Sto → Prop := fun f args K Q e s => match f with
  | _ => False
def Ct27 : CT := { f := Cf27, y := noYld, z := fun d => false }
theorem Ct27_ok : Ct27.ok Tryz.prog := ok_of_f (fun f args K Q e s h => by
  have h : Cf27 f args K Q e s := h
  unfold Cf27 at h; split at h
  · exact h.elim) (fun _ _ _ _ _ _ _ _ _ h => h)
theorem c27 : callable Tryz.prog 27 = true := by kernel_rfl
theorem pf27 (l : List Ska) (h : l.length ≤ 1000) : PF Tryz.prog 27 [.sl 3 (l.map Ska.c)] (fun zz => zz = .ret (.i (if (jud l).2 = true then (jud l).1 else -1))) := by
  have hjj : ∀ z, jud l = z → (if (jud l).2 = true then (jud l).1 else -1) = if z.2 = true then z.1 else -1 := fun z h => by rw [h]
  generalize (if (jud l).2 = true then (jud l).1 else -1) = V at hjj ⊢
  refine PF_nil (PF_start (O := O27) Ct27_ok hmix ho27 Tryz.func27 c27 rfl Tryz.ntmps27 Tryz.results27 ?_)
  simp (maxSteps := 4000000) +contextual (disch := first | omega | exact qdb_ok (by kernel_rfl) | exact okb_ok (by kernel_rfl)) only [bw1,bw2,bw5,bw6,bc4,bc5,Nat.reduceSub,List.reduceReplicate,Int.reduceNeg]
  refine loop_s (O := O27) (tb := 0) Ct27_ok hmix (by kernel_rfl) (σ := Nat) (fun i => [(3, .i i)]) (fun i => i ≤ l.length ∧ judN l (l.length - i) i = jud l) (fun i => l.length - i) (fun i => i + 1) 0 ⟨by omega, rfl⟩ ?_ ?_
  · simp (maxSteps := 4000000) +contextual (disch := first | omega | exact qdb_ok (by kernel_rfl) | exact okb_ok (by kernel_rfl)) only [bw4,bw6,bc0,bc5,bc6,AV.isNilS,AV.isNoRows,wk,reduceCtorEq]
  rintro i ⟨hi, hw⟩
  by_cases hlt : i < l.length
  · have hlt' : (i : Int) < l.length := by omega
    rw [show l.length - i = (l.length - (i + 1)) + 1 by omega, judN] at hw
    by_cases c1 : 0 < (l.getD i default).calls.length
    · rw [if_pos c1] at hw
      have hV := hjj _ hw.symm
      rw [if_pos rfl] at hV
      have c1' : (0 : Int) < (l.getD i default).calls.length := by omega
      simp (maxSteps := 4000000) +contextual (disch := first | omega | exact qdb_ok (by kernel_rfl) | exact okb_ok (by kernel_rfl)) only [bw1,bw2,bw3,bw4,bw5,bw6,bw7,bc0,bc1,bc2,bc3,bc4,bc5,bc6,binIs,addF,AV.isPtr,idxV,AV.isSl,AV.isSlice,AV.rows,ps,pv,AV.outs,AV.outF,packD,↓reduceIte,Nat.reduceAdd,Nat.reduceLeDiff,Int.reduceNeg,Int.reduceLE,tfb,eq_self, hlt', c1', hV, Int.toNat_zero]
      omega
    · rw [if_neg c1] at hw
      have c1' : ¬ (0 : Int) < (l.getD i default).calls.length := by omega
      by_cases c2 : 0 < (l.getD i default).parts.length
      · rw [if_pos c2] at hw
        have hV := hjj _ hw.symm
        rw [if_pos rfl] at hV
        have c2' : (0 : Int) < (l.getD i default).parts.length := by omega
        simp (maxSteps := 4000000) +contextual (disch := first | omega | exact qdb_ok (by kernel_rfl) | exact okb_ok (by kernel_rfl)) only [bw1,bw2,bw3,bw4,bw5,bw6,bw7,bc0,bc1,bc2,bc3,bc4,bc5,bc6,binIs,addF,AV.isPtr,idxV,AV.isSl,AV.isSlice,AV.rows,ps,pv,AV.outs,AV.outF,packD,↓reduceIte,Nat.reduceAdd,Nat.reduceLeDiff,Int.reduceNeg,Int.reduceLE,tfb,eq_self, hlt', c1', c2', hV, Int.toNat_zero]
        omega
      · rw [if_neg c2] at hw
        have c2' : ¬ (0 : Int) < (l.getD i default).parts.length := by omega
        simp (maxSteps := 4000000) +contextual (disch := first | omega | exact qdb_ok (by kernel_rfl) | exact okb_ok (by kernel_rfl)) only [bw1,bw2,bw4,bw5,bw6,bw7,bc0,bc1,bc2,bc3,bc4,bc5,bc6,AV.isNilS,AV.isNoRows,wk,binIs,addF,AV.isPtr,idxV,AV.isSl,AV.isSlice,AV.rows,ps,pv,↓reduceIte,reduceCtorEq,Nat.reduceAdd,Nat.reduceLeDiff,Int.reduceNeg,tfb,eq_self, hlt', c1', c2']
        and_intros <;> first | omega | exact hw
  · have hlt' : ¬ (i : Int) < l.length := by omega
    rw [show l.length - i = 0 by omega, judN] at hw
    have hV := hjj _ hw.symm
    rw [if_neg (by decide)] at hV
    simp (maxSteps := 4000000) +contextual (disch := first | omega | exact qdb_ok (by kernel_rfl) | exact okb_ok (by kernel_rfl)) only [bw1,bw2,bw3,bw4,bw5,bw6,bw7,bc0,bc1,bc2,bc3,bc4,bc5,bc6,binIs,AV.isSlice,AV.rows,AV.outs,AV.outF,packD,↓reduceIte,Int.reduceNeg,tfb,eq_self, hlt', hV]
def ent27 (args : List AV) (K : AV → List AV → Sto → Prop) (e : List AV) (s : Sto) : Prop := ent (α := (List Ska)) (fun aa => [.sl 3 (aa.map Ska.c)]) (fun aa => aa.length ≤ 1000) (fun aa => .i (if (jud aa).2 = true then (jud aa).1 else -1)) args K e s
theorem ent27_ok {args : List AV} {K : AV → List AV → Sto → Prop} {Q : Kt} {e : List AV} {s : Sto} (h : ent27 args K e s) : pcall Tryz.prog 27 args K Q e s := ent_ok (fun aa h => pf27 aa h) h
theorem eq27 {l : List Ska} {KK : AV → List AV → Sto → Prop} {ee : List AV} {ss : Sto} : ent27 [.d (.sl 3 (l.map Ska.c))] KK ee ss = ((l.length ≤ 1000) ∧ KK (.d (.i (if (jud l).2 = true then (jud l).1 else -1))) ee ss) := by
  unfold ent27; rw [ent_iff l (by intro b h; simpa [Prod.ext_iff, and_assoc, Int.ofNat_inj, ints_inj, cals_inj, pcs_inj, skas_inj, scos_inj, ska_inj, rul_inj, sco_inj, cal_inj] using h) rfl]; simp
end Go.Proofs.YtapglfcaghlpfaaGreat
