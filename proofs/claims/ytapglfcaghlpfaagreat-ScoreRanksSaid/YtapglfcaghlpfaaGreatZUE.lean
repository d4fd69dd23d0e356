/- A part of the proof that the last text ends: what functions of the program do, told by plain data. -/
import Derived.Test.YtapglfcaghlpfaaGreatZUD
set_option linter.unusedVariables false
set_option linter.unusedSimpArgs false
namespace Go.Proofs.YtapglfcaghlpfaaGreat
open Go Go.E Go.Maps
set_option maxRecDepth 100000
set_option maxHeartbeats 16000000
theorem smp_prog : progG smpR smpS = (⟨1606, 3173, 300, 4479⟩, 0) := by kernel_rfl
theorem thr_sw : swG thrR (thr 5) 4 = ([⟨3, 3⟩, ⟨2, 2⟩, ⟨1, 1⟩], 0) := by kernel_rfl
theorem smp_place : ∀ x ∈ smpS.calls, i64 x.place := fun x hx => by
  simp [smpS] at hx
  rcases hx with rfl | rfl | rfl <;> exact ⟨by simp, by simp⟩
theorem thr_place {n : Nat} : (thr n).length ≤ 1000 ∧ ∀ s ∈ thr n, ∀ x ∈ s.calls, i64 x.place := by
  refine ⟨by simp [thr], fun s hs x hx => ?_⟩
  obtain ⟨m, _, rfl⟩ := List.mem_map.1 hs
  simp [thrS] at hx
  subst hx
  exact ⟨by simp, by simp⟩
def O5 : Nat → Sch := fun id => .done
theorem ho5 : Tryz.f5.body.map (okO O5) = some true := by kernel_rfl
def Cf5 : Nat → List AV → (AV → List AV → Sto → Prop) → Kt → List AV → Sto → Prop := fun f args K Q e s => match f with
  | 8 => ent8 args K e s
  | 13 => ent13 args K e s
  | 14 => ent14 args K e s
  | 15 => ent15 args K e s
  | 16 => ent16 args K e s
  | _ => False
def Ct5 : CT := { f := Cf5, y := noYld, z := fun d => false }
theorem ctz5 {d : Nat} : CT.z Ct5 d = (false) := id rfl
theorem Ct5_ok : Ct5.ok Tryz.prog := ok_of_f (fun f args K Q e s h => by
  have h : Cf5 f args K Q e s := h
  unfold Cf5 at h; split at h
  · exact ent8_ok h
  · exact ent13_ok h
  · exact ent14_ok h
  · exact ent15_ok h
  · exact ent16_ok h
  · exact h.elim) (fun _ _ _ _ _ _ _ _ _ h => h)
theorem x5_15 {r : Rul} {s : Ska} {KK : AV → List AV → Sto → Prop} {QQ : Kt} {ii : At KK} {jj : At QQ} {ee : List AV} {ss : Sto} : xC Ct5 15 [.d (r.d), .d (.agg s.c)] KK QQ ii jj ee ss = ((∀ x ∈ s.calls, i64 x.place) ∧ KK (.d (.tup [.agg (progG r s).1.c, .i (progG r s).2])) ee ss) := eq15
theorem x5_8 {r : Rul} {l : List Ska} {j : Int} {KK : AV → List AV → Sto → Prop} {QQ : Kt} {ii : At KK} {jj : At QQ} {ee : List AV} {ss : Sto} : xC Ct5 8 [.d (r.d), .d (.sl 3 (l.map Ska.c)), .d (.i j)] KK QQ ii jj ee ss = ((l.length ≤ 1000 ∧ ∀ s ∈ l, ∀ x ∈ s.calls, i64 x.place) ∧ KK (.d (.tup [.sl 2 ((swG r l j).1.map Spn.c), .i (swG r l j).2])) ee ss) := eq8
theorem x5_13_m2 {a : List Spn} {b : List Spn} {g1 el1 : Nat} {KK : AV → List AV → Sto → Prop} {QQ : Kt} {ii : At KK} {jj : At QQ} {ee : List AV} {ss : Sto} : xC Ct5 13 [.d (.sl 2 (a.map Spn.c)), .own g1 el1 2 (b.map Spn.c)] KK QQ ii jj ee ss = ((a.length ≤ 1000000) ∧ (.b (decide (a = b)) : D).flat = true ∧ KK (.d (.b (decide (a = b)))) ee ss) := by
  show ent13 _ _ _ _ = _
  unfold ent13; rw [ent_iff (a, b) (by intro b h; simpa [Prod.ext_iff, and_assoc, Int.ofNat_inj, ints_inj, cals_inj, pcs_inj, skas_inj, scos_inj, ska_inj, rul_inj, sco_inj, cal_inj, ods_inj, od_inj, spns_inj] using h) rfl]; simp
theorem x5_14  {KK : AV → List AV → Sto → Prop} {QQ : Kt} {ii : At KK} {jj : At QQ} {ee : List AV} {ss : Sto} : xC Ct5 14 [] KK QQ ii jj ee ss = (KK (.d (.tup [smpR.d, .agg smpS.c])) ee ss) := eq14
theorem x5_16 {n : Nat} {KK : AV → List AV → Sto → Prop} {QQ : Kt} {ii : At KK} {jj : At QQ} {ee : List AV} {ss : Sto} : xC Ct5 16 [.d (.i (n : Int))] KK QQ ii jj ee ss = ((n ≤ 1000) ∧ KK (.d (.tup [thrR.d, .sl 3 ((thr n).map Ska.c)])) ee ss) := eq16
theorem c5 : callable Tryz.prog 5 = true := by kernel_rfl
theorem pf5  : PF Tryz.prog 5 [] (fun zz => zz = .ret (.b true)) := by
  have h1 := smp_prog
  have h2 := thr_sw
  have hp1 := smp_place
  have hp2 := thr_place (n := 5)
  have hx : ∀ {KK : AV → List AV → Sto → Prop} {QQ : Kt} {ii : At KK} {jj : At QQ} {ee : List AV} {ss : Sto}, xC Ct5 16 [.d (.v (.int .i64 5))] KK QQ ii jj ee ss = (5 ≤ 1000 ∧ KK (.d (.tup [thrR.d, .sl 3 ((thr 5).map Ska.c)])) ee ss) := x5_16 (n := 5)
  have hy : ∀ {KK : AV → List AV → Sto → Prop} {QQ : Kt} {ii : At KK} {jj : At QQ} {ee : List AV} {ss : Sto}, xC Ct5 13 [.d (.sl 2 [Spn.c ⟨3, 3⟩, Spn.c ⟨2, 2⟩, Spn.c ⟨1, 1⟩]), .own 42 54 2 [[.i 3, .i 3], [.i 2, .i 2], [.i 1, .i 1]]] KK QQ ii jj ee ss = ((3 ≤ 1000000) ∧ (D.b (decide (([⟨3, 3⟩, ⟨2, 2⟩, ⟨1, 1⟩] : List Spn) = [⟨3, 3⟩, ⟨2, 2⟩, ⟨1, 1⟩]))).flat = true ∧ KK (.d (.b (decide (([⟨3, 3⟩, ⟨2, 2⟩, ⟨1, 1⟩] : List Spn) = [⟨3, 3⟩, ⟨2, 2⟩, ⟨1, 1⟩])))) ee ss) := x5_13_m2 (a := [⟨3, 3⟩, ⟨2, 2⟩, ⟨1, 1⟩]) (b := [⟨3, 3⟩, ⟨2, 2⟩, ⟨1, 1⟩])
  refine PF_nil (PF_start (O := O5) Ct5_ok hmix ho5 Tryz.func5 c5 rfl Tryz.ntmps5 Tryz.results5 ?_)
  simp (maxSteps := 4000000) +contextual (disch := first | omega | exact qdb_ok (by kernel_rfl) | exact okb_ok (by kernel_rfl)) only [bw1,bw2,bw3,bw5,bw6,bc0,bc1,bc2,bc3,bc4,bc5,bc6,binIs,ps,pv,extV,extS,AV.outs,AV.outF,packD,AV.dl,AV.cells?,AV.menc,AV.one,D.one,Value.oneCell',AV.dcells,D.cells?,stcV,stcS,leafOk,eqDs,eqD,↓reduceIte,reduceCtorEq,Nat.reduceAdd,Nat.reduceSub,Nat.reduceMul,List.reduceReplicate,Nat.reduceLeDiff,Nat.reduceLT,Nat.reduceBEq,Nat.reduceEqDiff,tfb,ctz5,x5_15,x5_8,x5_14,h1, h2, hx, hy]
  exact ⟨hp1, hp2, rfl⟩
def ent5 (args : List AV) (K : AV → List AV → Sto → Prop) (e : List AV) (s : Sto) : Prop := ent (α := Unit) (fun aa => []) (fun aa => True) (fun aa => .b true) args K e s
theorem ent5_ok {args : List AV} {K : AV → List AV → Sto → Prop} {Q : Kt} {e : List AV} {s : Sto} (h : ent5 args K e s) : pcall Tryz.prog 5 args K Q e s := ent_ok (fun aa h => pf5 ) h
theorem eq5  {KK : AV → List AV → Sto → Prop} {ee : List AV} {ss : Sto} : ent5 [] KK ee ss = (KK (.d (.b true)) ee ss) := by
  unfold ent5; rw [ent_iff () (by intro b h; cases b; rfl) rfl]; simp
end Go.Proofs.YtapglfcaghlpfaaGreat
