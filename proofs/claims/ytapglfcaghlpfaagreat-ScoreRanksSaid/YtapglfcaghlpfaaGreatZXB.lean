/- A part of the proof that the last text ends: what functions of the program do, told by plain data. -/
import Derived.Test.YtapglfcaghlpfaaGreatZXA
set_option linter.unusedVariables false
set_option linter.unusedSimpArgs false
namespace Go.Proofs.YtapglfcaghlpfaaGreat
open Go Go.E Go.Maps
set_option maxRecDepth 100000
set_option maxHeartbeats 16000000
theorem rkG_len {l : List Sco} (h : l.length ≤ 60) : (rkG l).1.length ≤ 1000000 := by
  unfold rkG
  split
  · exact Nat.zero_le _
  · show (rkR l l.length).length ≤ 1000000
    rw [rkR_len]; omega
theorem swG_len {r : Rul} {l : List Ska} {j : Int} (h : l.length ≤ 1000) : (swG r l j).1.length ≤ 1000000 := by
  unfold swG
  repeat' split
  · show (swR r l j.toNat).length ≤ 1000000
    rw [swR_len]; omega
  all_goals exact Nat.zero_le _
theorem opG_len {r : Rul} {l : List Ska} {f : Int} (h : l.length ≤ 1000) : (opG r l f).1.length ≤ 1000000 := by
  unfold opG
  repeat' split
  · have : opL r l f = opN r l f l.length := rfl
    show (opL r l f).length ≤ 1000000
    rw [this]
    have := opN_len (r := r) (l := l) (first := f) l.length
    omega
  all_goals exact Nat.zero_le _
def O3 : Nat → Sch := fun id => .done
theorem ho3 : Tryz.f3.body.map (okO O3) = some true := by kernel_rfl
def Cf3 : Nat → List AV → (AV → List AV → Sto → Prop) → Kt → List AV → Sto → Prop := fun f args K Q e s => match f with
  | 4 => ent4 args K e s
  | 5 => ent5 args K e s
  | 6 => ent6 args K e s
  | 7 => ent7 args K e s
  | 8 => ent8 args K e s
  | 9 => ent9 args K e s
  | 10 => ent10 args K e s
  | 11 => ent11 args K e s
  | 12 => ent12 args K e s
  | 13 => ent13 args K e s
  | _ => False
def Ct3 : CT := { f := Cf3, y := noYld, z := fun d => false }
theorem Ct3_ok : Ct3.ok Tryz.prog := ok_of_f (fun f args K Q e s h => by
  have h : Cf3 f args K Q e s := h
  unfold Cf3 at h; split at h
  · exact ent4_ok h
  · exact ent5_ok h
  · exact ent6_ok h
  · exact ent7_ok h
  · exact ent8_ok h
  · exact ent9_ok h
  · exact ent10_ok h
  · exact ent11_ok h
  · exact ent12_ok h
  · exact ent13_ok h
  · exact h.elim) (fun _ _ _ _ _ _ _ _ _ h => h)
theorem x3_4 {l : List Ska} {most : Int} {KK : AV → List AV → Sto → Prop} {QQ : Kt} {ii : At KK} {jj : At QQ} {ee : List AV} {ss : Sto} : xC Ct3 4 [.d (.sl 3 (l.map Ska.c)), .d (.i most)] KK QQ ii jj ee ss = ((0 ≤ most ∧ most ≤ 1000) ∧ KK (.d (.b (great l most))) ee ss) := eq4
theorem x3_5  {KK : AV → List AV → Sto → Prop} {QQ : Kt} {ii : At KK} {jj : At QQ} {ee : List AV} {ss : Sto} : xC Ct3 5 [] KK QQ ii jj ee ss = (KK (.d (.b true)) ee ss) := eq5
theorem x3_6 {l : List Sco} {KK : AV → List AV → Sto → Prop} {QQ : Kt} {ii : At KK} {jj : At QQ} {ee : List AV} {ss : Sto} : xC Ct3 6 [.d (.sl 4 (l.map Sco.c))] KK QQ ii jj ee ss = ((l.length ≤ 1000000) ∧ KK (.d (.tup [.sl 1 ((rkG l).1.map ic), .i (rkG l).2])) ee ss) := eq6
theorem x3_7 {l : List Sco} {KK : AV → List AV → Sto → Prop} {QQ : Kt} {ii : At KK} {jj : At QQ} {ee : List AV} {ss : Sto} : xC Ct3 7 [.d (.sl 4 (l.map Sco.c))] KK QQ ii jj ee ss = ((l.length ≤ 1000000) ∧ KK (.d (.tup [.sl 1 ((rkG l).1.map ic), .i (rkG l).2])) ee ss) := eq7
theorem x3_8 {r : Rul} {l : List Ska} {j : Int} {KK : AV → List AV → Sto → Prop} {QQ : Kt} {ii : At KK} {jj : At QQ} {ee : List AV} {ss : Sto} : xC Ct3 8 [.d (r.d), .d (.sl 3 (l.map Ska.c)), .d (.i j)] KK QQ ii jj ee ss = ((l.length ≤ 1000 ∧ ∀ s ∈ l, ∀ x ∈ s.calls, i64 x.place) ∧ KK (.d (.tup [.sl 2 ((swG r l j).1.map Spn.c), .i (swG r l j).2])) ee ss) := eq8
theorem x3_9 {r : Rul} {l : List Ska} {j : Int} {KK : AV → List AV → Sto → Prop} {QQ : Kt} {ii : At KK} {jj : At QQ} {ee : List AV} {ss : Sto} : xC Ct3 9 [.d (r.d), .d (.sl 3 (l.map Ska.c)), .d (.i j)] KK QQ ii jj ee ss = ((l.length ≤ 1000 ∧ i64 j) ∧ KK (.d (.tup [.sl 2 ((swG r l j).1.map Spn.c), .i (swG r l j).2])) ee ss) := eq9
theorem x3_10 {r : Rul} {l : List Ska} {first : Int} {KK : AV → List AV → Sto → Prop} {QQ : Kt} {ii : At KK} {jj : At QQ} {ee : List AV} {ss : Sto} : xC Ct3 10 [.d (r.d), .d (.sl 3 (l.map Ska.c)), .d (.i first)] KK QQ ii jj ee ss = (((l.length ≤ 1000 ∧ (l.length ≤ 12 ∨ 40 < l.length)) ∧ (∀ s ∈ l, ∀ x ∈ s.calls, i64 x.place) ∧ i64 first) ∧ KK (.d (.tup [.sl 1 ((opG r l first).1.map ic), .i (opG r l first).2])) ee ss) := eq10
theorem x3_11 {r : Rul} {l : List Ska} {first : Int} {KK : AV → List AV → Sto → Prop} {QQ : Kt} {ii : At KK} {jj : At QQ} {ee : List AV} {ss : Sto} : xC Ct3 11 [.d (r.d), .d (.sl 3 (l.map Ska.c)), .d (.i first)] KK QQ ii jj ee ss = ((l.length ≤ 1000 ∧ i64 first) ∧ KK (.d (.tup [.sl 1 ((opG r l first).1.map ic), .i (opG r l first).2])) ee ss) := eq11
theorem x3_12 {a : List Int} {b : List Int} {KK : AV → List AV → Sto → Prop} {QQ : Kt} {ii : At KK} {jj : At QQ} {ee : List AV} {ss : Sto} : xC Ct3 12 [.d (.sl 1 (a.map ic)), .d (.sl 1 (b.map ic))] KK QQ ii jj ee ss = ((a.length ≤ 1000000) ∧ KK (.d (.b (decide (a = b)))) ee ss) := eq12
theorem x3_13 {a : List Spn} {b : List Spn} {KK : AV → List AV → Sto → Prop} {QQ : Kt} {ii : At KK} {jj : At QQ} {ee : List AV} {ss : Sto} : xC Ct3 13 [.d (.sl 2 (a.map Spn.c)), .d (.sl 2 (b.map Spn.c))] KK QQ ii jj ee ss = ((a.length ≤ 1000000) ∧ KK (.d (.b (decide (a = b)))) ee ss) := eq13
theorem c3 : callable Tryz.prog 3 = true := by kernel_rfl
theorem pf3 (l : List Sco) (r : Rul) (s : List Ska) (j first : Int) (h : (∀ x ∈ s, ∀ y ∈ x.calls, i64 y.place) ∧ i64 j ∧ i64 first) : PF Tryz.prog 3 [.sl 4 (l.map Sco.c), r.d, .sl 3 (s.map Ska.c), .i j, .i first] (fun zz => zz = .ret (.b true)) := by
  obtain ⟨h1, h2, h3⟩ := h
  by_cases g1 : (60 : Int) < l.length
  · refine PF_nil (PF_start (O := O3) Ct3_ok hmix ho3 Tryz.func3 c3 rfl Tryz.ntmps3 Tryz.results3 ?_)
    simp (maxSteps := 4000000) +contextual (disch := first | omega | exact qdb_ok (by kernel_rfl) | exact okb_ok (by kernel_rfl)) only [bw1,bw2,bw3,bw4,bw5,bw6,bw7,bc0,bc1,bc2,bc3,bc4,bc5,bc6,binIs,AV.isSlice,AV.rows,AV.outs,AV.outF,packD,AV.cells?,↓reduceIte,reduceCtorEq,Nat.reduceAdd,Nat.reduceSub,List.reduceReplicate,Nat.reduceLT,tfb,x3_5,g1]
  by_cases g2 : (80 : Int) < r.bases.length
  · refine PF_nil (PF_start (O := O3) Ct3_ok hmix ho3 Tryz.func3 c3 rfl Tryz.ntmps3 Tryz.results3 ?_)
    simp (maxSteps := 4000000) +contextual (disch := first | omega | exact qdb_ok (by kernel_rfl) | exact okb_ok (by kernel_rfl)) only [bw1,bw2,bw3,bw4,bw5,bw6,bw7,bc0,bc1,bc2,bc3,bc4,bc5,bc6,binIs,addF,AV.isPtr,AV.isSlice,AV.rows,AV.outs,AV.outF,packD,AV.cells?,↓reduceIte,reduceCtorEq,Nat.reduceAdd,Nat.reduceSub,List.reduceReplicate,Nat.reduceLeDiff,Nat.reduceLT,tfb,x3_5,g1, g2]
  by_cases g3 : (8 : Int) < s.length ∧ (s.length : Int) ≤ 40
  · have g3a := g3.1
    have g3b := g3.2
    refine PF_nil (PF_start (O := O3) Ct3_ok hmix ho3 Tryz.func3 c3 rfl Tryz.ntmps3 Tryz.results3 ?_)
    simp (maxSteps := 4000000) +contextual (disch := first | omega | exact qdb_ok (by kernel_rfl) | exact okb_ok (by kernel_rfl)) only [bw1,bw2,bw3,bw4,bw5,bw6,bw7,bc0,bc1,bc2,bc3,bc4,bc5,bc6,binIs,addF,AV.isPtr,AV.isSlice,AV.rows,AV.outs,AV.outF,packD,AV.cells?,↓reduceIte,reduceCtorEq,Nat.reduceAdd,Nat.reduceSub,List.reduceReplicate,Nat.reduceLeDiff,Nat.reduceLT,tfb,x3_5,g1, g2, g3a, g3b]
  by_cases g4 : great s 43 = true
  · by_cases g5 : (8 : Int) < s.length
    · have g5b : ¬ (s.length : Int) ≤ 40 := fun h => g3 ⟨g5, h⟩
      refine PF_nil (PF_start (O := O3) Ct3_ok hmix ho3 Tryz.func3 c3 rfl Tryz.ntmps3 Tryz.results3 ?_)
      simp (maxSteps := 4000000) +contextual (disch := first | omega | exact qdb_ok (by kernel_rfl) | exact okb_ok (by kernel_rfl)) only [bw1,bw2,bw3,bw4,bw5,bw6,bw7,bc0,bc1,bc2,bc3,bc4,bc5,bc6,binIs,addF,AV.isPtr,AV.isSlice,AV.rows,AV.outs,AV.outF,packD,AV.cells?,↓reduceIte,reduceCtorEq,Nat.reduceAdd,Nat.reduceSub,List.reduceReplicate,Nat.reduceLeDiff,Nat.reduceLT,Int.reduceLE,tfb,x3_4,x3_5,g1, g2, g5, g5b, g4]
    · refine PF_nil (PF_start (O := O3) Ct3_ok hmix ho3 Tryz.func3 c3 rfl Tryz.ntmps3 Tryz.results3 ?_)
      simp (maxSteps := 4000000) +contextual (disch := first | omega | exact qdb_ok (by kernel_rfl) | exact okb_ok (by kernel_rfl)) only [bw1,bw2,bw3,bw4,bw5,bw6,bw7,bc0,bc1,bc2,bc3,bc4,bc5,bc6,binIs,addF,AV.isPtr,AV.isSlice,AV.rows,AV.outs,AV.outF,packD,AV.cells?,↓reduceIte,reduceCtorEq,Nat.reduceAdd,Nat.reduceSub,List.reduceReplicate,Nat.reduceLeDiff,Nat.reduceLT,Int.reduceLE,tfb,x3_4,x3_5,g1, g2, g5, g4]
  have hs43 : s.length ≤ 43 := by
    have : great s 43 = false := by simpa using g4
    unfold great at this
    rw [Bool.or_eq_false_iff, decide_eq_false_iff_not] at this
    omega
  have hs1 : s.length ≤ 1000 := by omega
  have hs12 : s.length ≤ 12 ∨ 40 < s.length := by omega
  have hl6 : l.length ≤ 1000000 := by omega
  have r1 := rkG_len (l := l) (by omega)
  have r2 := swG_len (r := r) (l := s) (j := j) hs1
  have r3 := opG_len (r := r) (l := s) (f := first) hs1
  have p9 : s.length ≤ 1000 ∧ i64 j := ⟨hs1, h2⟩
  have p10 : (s.length ≤ 1000 ∧ (s.length ≤ 12 ∨ 40 < s.length)) ∧ (∀ x ∈ s, ∀ y ∈ x.calls, i64 y.place) ∧ i64 first := ⟨⟨hs1, hs12⟩, h1, h3⟩
  have p11 : s.length ≤ 1000 ∧ i64 first := ⟨hs1, h3⟩
  have p8 : s.length ≤ 1000 ∧ ∀ x ∈ s, ∀ y ∈ x.calls, i64 y.place := ⟨hs1, h1⟩
  obtain ⟨A, hA⟩ : ∃ A, rkG l = A := ⟨_, rfl⟩
  obtain ⟨B, hB⟩ : ∃ B, swG r s j = B := ⟨_, rfl⟩
  obtain ⟨C, hC⟩ : ∃ C, opG r s first = C := ⟨_, rfl⟩
  rw [hA] at r1
  rw [hB] at r2
  rw [hC] at r3
  by_cases g5 : (8 : Int) < s.length
  · have g5b : ¬ (s.length : Int) ≤ 40 := fun h => g3 ⟨g5, h⟩
    refine PF_nil (PF_start (O := O3) Ct3_ok hmix ho3 Tryz.func3 c3 rfl Tryz.ntmps3 Tryz.results3 ?_)
    simp (maxSteps := 4000000) +contextual (disch := first | omega | exact qdb_ok (by kernel_rfl) | exact okb_ok (by kernel_rfl)) only [bw1,bw2,bw3,bw4,bw5,bw6,bw7,bc0,bc1,bc2,bc3,bc4,bc5,bc6,binIs,addF,AV.isPtr,AV.isSlice,AV.rows,extV,extS,AV.outs,AV.outF,packD,AV.dl,AV.cells?,↓reduceIte,reduceCtorEq,Nat.reduceAdd,Nat.reduceSub,List.reduceReplicate,Nat.reduceLeDiff,Nat.reduceLT,Int.reduceLE,tfb,x3_4,x3_5,x3_6,x3_7,x3_8,x3_9,x3_10,x3_11,x3_12,x3_13,g1, g2, g5, g5b, g4, hl6, hA, hB, hC, r1, r2, r3, p8, p9, p10, eq_self]
    exact fun _ _ _ _ => trivial
  · refine PF_nil (PF_start (O := O3) Ct3_ok hmix ho3 Tryz.func3 c3 rfl Tryz.ntmps3 Tryz.results3 ?_)
    simp (maxSteps := 4000000) +contextual (disch := first | omega | exact qdb_ok (by kernel_rfl) | exact okb_ok (by kernel_rfl)) only [bw1,bw2,bw3,bw4,bw5,bw6,bw7,bc0,bc1,bc2,bc3,bc4,bc5,bc6,binIs,addF,AV.isPtr,AV.isSlice,AV.rows,extV,extS,AV.outs,AV.outF,packD,AV.dl,AV.cells?,↓reduceIte,reduceCtorEq,Nat.reduceAdd,Nat.reduceSub,List.reduceReplicate,Nat.reduceLeDiff,Nat.reduceLT,Int.reduceLE,tfb,x3_4,x3_5,x3_6,x3_7,x3_8,x3_9,x3_10,x3_11,x3_12,x3_13,g1, g2, g5, g4, hl6, hA, hB, hC, r1, r2, r3, p8, p9, p10, eq_self]
    exact fun _ _ _ _ => trivial
end Go.Proofs.YtapglfcaghlpfaaGreat
