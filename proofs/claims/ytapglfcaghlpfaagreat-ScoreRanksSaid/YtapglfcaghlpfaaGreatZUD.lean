/- A part of the proof that the last text ends: what functions of the program do, told by plain data. -/
import Derived.Test.YtapglfcaghlpfaaGreatZUC
import Derived.Test.YtapglfcaghlpfaaGreatEc
set_option linter.unusedVariables false
set_option linter.unusedSimpArgs false
namespace Go.Proofs.YtapglfcaghlpfaaGreat
open Go Go.E Go.Maps
set_option maxRecDepth 100000
set_option maxHeartbeats 16000000
def smpR : Rul := ⟨[800, 500, 420], 160, 2⟩
def smpS : Ska := ⟨[⟨1, 0, 0, false, false, [2, 3, 1, 2, -1]⟩, ⟨2, 1, 1, true, true, [-5, -5, -4, -5, -3]⟩, ⟨3, 2, 0, false, false, [0, 0, 0, 0, 0]⟩], [[28, 30, 29, 31, 27], [24, 24, 24, 24, 24], [26, 26, 25, 27, 40]], 7⟩
def O14 : Nat → Sch := fun id => .done
theorem ho14 : Tryz.f14.body.map (okO O14) = some true := by kernel_rfl
def Cf14 : Nat → List AV → (AV → List AV → Sto → Prop) → Kt → List AV → Sto → Prop := fun f args K Q e s => match f with
  | _ => False
def Ct14 : CT := { f := Cf14, y := noYld, z := fun d => d == 12 || d == 18 }
theorem ctz14 {d : Nat} : CT.z Ct14 d = (d == 12 || d == 18) := id rfl
theorem Ct14_ok : Ct14.ok Tryz.prog := ok_of_f (fun f args K Q e s h => by
  have h : Cf14 f args K Q e s := h
  unfold Cf14 at h; split at h
  · exact h.elim) (fun _ _ _ _ _ _ _ _ _ h => h)
theorem c14 : callable Tryz.prog 14 = true := by kernel_rfl
theorem pf14  : PF Tryz.prog 14 [] (fun zz => zz = .ret (.tup [smpR.d, .agg smpS.c])) := by
  refine PF_nil (PF_start (O := O14) Ct14_ok hmix ho14 Tryz.func14 c14 rfl Tryz.ntmps14 Tryz.results14 ?_)
  simp (maxSteps := 4000000) +contextual (disch := first | omega | exact qdb_ok (by kernel_rfl) | exact okb_ok (by kernel_rfl)) only [bw1,bw2,bw3,bw5,bw6,bc0,bc2,bc3,bc4,bc5,bc6,bc7,AV.owns,AV.datF,AV.frz,ps,pv,AV.outs,AV.outF,packD,AV.dl,AV.cells?,AV.menc,AV.one,D.one,Value.oneCell',AV.dcells,D.cells?,↓reduceIte,reduceCtorEq,Nat.reduceAdd,Nat.reduceSub,Nat.reduceMul,List.reduceReplicate,Nat.reduceLeDiff,Nat.reduceLT,Nat.reduceBEq,Nat.reduceEqDiff,Int.reduceNeg,tfb,ctz14]
  exact ⟨⟨rfl, rfl, rfl⟩, rfl, rfl, rfl⟩
def thrS (n : Nat) (m : Int) : Ska := ⟨[⟨0, 0, 0, false, false, List.replicate n m⟩], [], 0⟩
def thrR : Rul := ⟨[100], 0, 1⟩
def thr (n : Nat) : List Ska := [0, 1, 3].map (thrS n)
def thrC (n : Nat) (m : Int) : List D := [.sl 6 [[.i 0, .i 0, .i 0, .b false, .b false, .sl 1 ((List.replicate n m).map ic)]], .v (.slice none 0 0), .i 0]
def thrN (n i : Nat) : List (List D) := (([0, 1, 3] : List Int).take i).map (thrC n)
def ent14 (args : List AV) (K : AV → List AV → Sto → Prop) (e : List AV) (s : Sto) : Prop := ent (α := Unit) (fun aa => []) (fun aa => True) (fun aa => .tup [smpR.d, .agg smpS.c]) args K e s
theorem ent14_ok {args : List AV} {K : AV → List AV → Sto → Prop} {Q : Kt} {e : List AV} {s : Sto} (h : ent14 args K e s) : pcall Tryz.prog 14 args K Q e s := ent_ok (fun aa h => pf14 ) h
theorem eq14  {KK : AV → List AV → Sto → Prop} {ee : List AV} {ss : Sto} : ent14 [] KK ee ss = (KK (.d (.tup [smpR.d, .agg smpS.c])) ee ss) := by
  unfold ent14; rw [ent_iff () (by intro b h; cases b; rfl) rfl]; simp
def O16 : Nat → Sch := fun id => .done
theorem ho16 : Tryz.f16.body.map (okO O16) = some true := by kernel_rfl
def Cf16 : Nat → List AV → (AV → List AV → Sto → Prop) → Kt → List AV → Sto → Prop := fun f args K Q e s => match f with
  | _ => False
def Ct16 : CT := { f := Cf16, y := noYld, z := fun d => d == 27 || d == 29 }
theorem ctz16 {d : Nat} : CT.z Ct16 d = (d == 27 || d == 29) := id rfl
theorem Ct16_ok : Ct16.ok Tryz.prog := ok_of_f (fun f args K Q e s h => by
  have h : Cf16 f args K Q e s := h
  unfold Cf16 at h; split at h
  · exact h.elim) (fun _ _ _ _ _ _ _ _ _ h => h)
theorem c16 : callable Tryz.prog 16 = true := by kernel_rfl
theorem pf16 (n : Nat) (h : n ≤ 1000) : PF Tryz.prog 16 [.i (n : Int)] (fun zz => zz = .ret (.tup [thrR.d, .sl 3 ((thr n).map Ska.c)])) := by
  have hdeep : NilD (.tup [thrR.d, .sl 3 [thrC n 0, thrC n 1, thrC n 3]]) (.tup [thrR.d, .sl 3 ((thr n).map Ska.c)]) := .tup (.cons (.refl _) (.cons (.sl (.cons (.cons (.refl _) (.cons (.nil 1) (.refl _))) (.cons (.cons (.refl _) (.cons (.nil 1) (.refl _))) (.cons (.cons (.refl _) (.cons (.nil 1) (.refl _))) (.refl _))))) (.refl _)))
  refine PF_deep hdeep ?_
  have ht : thrN n 3 = [thrC n 0, thrC n 1, thrC n 3] := rfl
  have h0 : thrN n 0 = [] := rfl
  have h1 : ∀ i, i < 3 → thrN n (i + 1) = thrN n i ++ [thrC n (([0, 1, 3] : List Int).getD i 0)] := fun i hi => by
    rcases (show i = 0 ∨ i = 1 ∨ i = 2 by omega) with rfl | rfl | rfl <;> rfl
  have hl : ∀ i, i ≤ 3 → (thrN n i).length = i := fun i hi => by simp [thrN]; omega
  have h3 : (0 : Int) + 1 + 1 + 1 = 3 := rfl
  generalize thrN n = T at *
  refine PF_nil (PF_start (O := O16) Ct16_ok hmix ho16 Tryz.func16 c16 rfl Tryz.ntmps16 Tryz.results16 ?_)
  simp (maxSteps := 4000000) +contextual (disch := first | omega | exact qdb_ok (by kernel_rfl) | exact okb_ok (by kernel_rfl)) only [bw1,bw2,bw4,bw5,bw6,bc3,bc4,bc5,bc6,AV.isSlice,AV.rows,D.one,Value.oneCell',AV.dcells,D.cells?,↓reduceIte,reduceCtorEq,Nat.reduceAdd,Nat.reduceSub,Nat.reduceMul,List.reduceReplicate,Nat.reduceLeDiff,Nat.reduceLT,Nat.reduceBEq,Nat.reduceEqDiff,tfb,ctz16]
  refine seed (m1 := mk _) (m2 := mk _) 4 31 42 3 (by decide) rfl rfl (by simp [Sto.mens, AV.mens, AV.men]) rfl ?_
  simp (maxSteps := 4000000) +contextual (disch := first | omega | exact qdb_ok (by kernel_rfl) | exact okb_ok (by kernel_rfl)) only [bw6]
  refine loop_u (O := O16) (tb := 0) Ct16_ok hmix (by kernel_rfl) (σ := Nat) (fun i => [(4, .own 31 42 3 (T i)), (6, .any), (7, .any), (10, .i i)]) (fun _ => []) (fun i => i ≤ 3) (fun i => 3 - i) (fun i => i + 1) 0 (by omega) ?_ ?_
  · simp (maxSteps := 4000000) +contextual (disch := first | omega | exact qdb_ok (by kernel_rfl) | exact okb_ok (by kernel_rfl)) only [bw4,bw5,bw6,bc0,bc3,bc5,bc6,AV.isNilS,AV.isNoRows,wk,↓reduceIte,reduceCtorEq,eq_self, h0]
    try rfl
  intro i hi
  by_cases hlt : i < 3
  case neg =>
    obtain rfl : i = 3 := by omega
    have hno : ¬ (((3 : Nat) : Int) < 3) := by omega
    simp (maxSteps := 4000000) +contextual (disch := first | omega | exact qdb_ok (by kernel_rfl) | exact okb_ok (by kernel_rfl)) only [bw1,bw2,bw3,bw4,bw5,bw6,bw7,bc0,bc1,bc2,bc3,bc4,bc5,bc6,bc7,binIs,ps,pv,AV.outs,AV.outF,packD,AV.dl,AV.cells?,AV.menc,AV.one,D.one,Value.oneCell',AV.dcells,D.cells?,↓reduceIte,reduceCtorEq,Nat.reduceAdd,Nat.reduceSub,Nat.reduceMul,List.reduceReplicate,Nat.reduceLeDiff,Nat.reduceLT,Nat.reduceBEq,Nat.reduceEqDiff,tfb,ctz16,eq_self, h3, Int.lt_irrefl, ht]
    exact ⟨rfl, rfl, rfl⟩
  have hlt' : (i : Int) < 3 := by omega
  have h1i := h1 i hlt
  have hli := hl i hi
  have r1 : ([[D.v (Value.int .i64 0)], [D.v (Value.int .i64 1)], [D.v (Value.int .i64 3)]] : List (List D)).getD i [] = [.i (([0, 1, 3] : List Int).getD i 0)] := by
    rcases (show i = 0 ∨ i = 1 ∨ i = 2 by omega) with rfl | rfl | rfl <;> rfl
  generalize ([0, 1, 3] : List Int).getD i 0 = m at *
  simp (maxSteps := 4000000) +contextual (disch := first | omega | exact qdb_ok (by kernel_rfl) | exact okb_ok (by kernel_rfl)) only [bw1,bw2,bw4,bw5,bw6,bw7,bc0,bc1,bc2,bc3,bc4,bc5,bc6,binIs,idxV,AV.isSl,AV.rows,ps,pv,AV.dl,AV.cells?,AV.menc,AV.one,D.one,Value.oneCell',↓reduceIte,reduceCtorEq,Nat.reduceAdd,Nat.reduceLeDiff,Nat.reduceLT,Nat.reduceBEq,Nat.reduceEqDiff,tfb,eq_self, h3, hlt', r1]
  refine ⟨by omega, ?_⟩
  refine seedS 8 5 23 3 1 _ (by decide) (by decide) rfl rfl (by simp [Sto.mens, AV.mens, AV.men]) rfl rfl ?_
  simp (maxSteps := 4000000) +contextual (disch := first | omega | exact qdb_ok (by kernel_rfl) | exact okb_ok (by kernel_rfl)) only [bw6,bc3,↓reduceIte,reduceCtorEq,Nat.reduceEqDiff,eq_self]
  have q0 : List.replicate 0 m = [] := rfl
  have q1 : ∀ k, List.replicate (k + 1) m = List.replicate k m ++ [m] := fun k => List.replicate_succ'
  have ql : ∀ k, (List.replicate k m).length = k := fun k => List.length_replicate
  refine loop_u (O := O16) (tb := 0) Ct16_ok hmix (by kernel_rfl) (σ := Nat) (fun k => [(16, .i k)]) (fun k => [(8, [.d (.i 0), .d (.i 0), .d (.i 0), .d (.b false), .d (.b false), .own 23 3 1 ((List.replicate k m).map ic)])]) (fun k => k ≤ n) (fun k => n - k) (fun k => k + 1) 0 (by omega) ?_ ?_
  · simp (maxSteps := 4000000) +contextual (disch := first | omega | exact qdb_ok (by kernel_rfl) | exact okb_ok (by kernel_rfl)) only [bw4,bw5,bw6,bc0,bc3,bc4,bc5,bc6,AV.isNilS,AV.isNoRows,wk,↓reduceIte,reduceCtorEq,Nat.reduceEqDiff,eq_self, q0]
    try rfl
  intro k hk
  by_cases hkt : k < n
  · have hkt' : (k : Int) < n := by omega
    have q1k := q1 k
    have qlk := ql k
    simp (maxSteps := 4000000) +contextual (disch := first | omega | exact qdb_ok (by kernel_rfl) | exact okb_ok (by kernel_rfl)) only [bw1,bw2,bw4,bw5,bw6,bw7,bc0,bc1,bc2,bc3,bc4,bc5,bc6,AV.isNilS,AV.isNoRows,wk,binIs,addF,AV.isPtr,AV.isSl,AV.rows,AV.cells?,AV.menc,AV.one,D.one,Value.oneCell',tagOf,AV.isApp,AV.dcells,D.cells?,↓reduceIte,reduceCtorEq,Nat.reduceAdd,Nat.reduceMul,List.reduceReplicate,Nat.reduceLeDiff,Nat.reduceLT,Nat.reduceBEq,Nat.reduceEqDiff,tfb,ctz16,eq_self, hkt', q1k, qlk]
    refine ⟨by omega, by omega, by omega, ?_⟩
    rw [List.map_append]; rfl
  have hkt' : ¬ (k : Int) < n := by omega
  obtain rfl : k = n := by omega
  simp (maxSteps := 4000000) +contextual (disch := first | omega | exact qdb_ok (by kernel_rfl) | exact okb_ok (by kernel_rfl)) only [bw1,bw2,bw4,bw5,bw6,bw7,bc0,bc1,bc2,bc3,bc4,bc5,bc6,AV.owns,AV.datF,AV.frz,AV.isNilS,AV.isNoRows,wk,binIs,AV.isSl,AV.rows,ps,pv,AV.dl,AV.cells?,D.one,Value.oneCell',tagOf,AV.isApp,AV.dcells,D.cells?,↓reduceIte,reduceCtorEq,Nat.reduceAdd,Nat.reduceMul,List.reduceReplicate,Nat.reduceLeDiff,Nat.reduceLT,Nat.reduceBEq,Nat.reduceEqDiff,tfb,ctz16,eq_self, Int.lt_irrefl, hli]
  refine ⟨by omega, by omega, by omega, ?_, rfl⟩
  rw [h1i]; rfl
def ent16 (args : List AV) (K : AV → List AV → Sto → Prop) (e : List AV) (s : Sto) : Prop := ent (α := (Nat)) (fun aa => [.i (aa : Int)]) (fun aa => aa ≤ 1000) (fun aa => .tup [thrR.d, .sl 3 ((thr aa).map Ska.c)]) args K e s
theorem ent16_ok {args : List AV} {K : AV → List AV → Sto → Prop} {Q : Kt} {e : List AV} {s : Sto} (h : ent16 args K e s) : pcall Tryz.prog 16 args K Q e s := ent_ok (fun aa h => pf16 aa h) h
theorem eq16 {n : Nat} {KK : AV → List AV → Sto → Prop} {ee : List AV} {ss : Sto} : ent16 [.d (.i (n : Int))] KK ee ss = ((n ≤ 1000) ∧ KK (.d (.tup [thrR.d, .sl 3 ((thr n).map Ska.c)])) ee ss) := by
  unfold ent16; rw [ent_iff n (by intro b h; simpa [Prod.ext_iff, and_assoc, Int.ofNat_inj, ints_inj, cals_inj, pcs_inj, skas_inj, scos_inj, ska_inj, rul_inj, sco_inj, cal_inj, ods_inj, od_inj, spns_inj] using h) rfl]; simp
end Go.Proofs.YtapglfcaghlpfaaGreat
