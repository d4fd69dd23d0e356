/- A part of the proof that the last text ends: what functions of the program do, told by plain data. -/
import Derived.Test.YtapglfcaghlpfaaUD
set_option linter.unusedVariables false
set_option linter.unusedSimpArgs false
namespace Go.Proofs.Ytapglfcaghlpfaa
open Go Go.E Go.Maps
set_option maxRecDepth 100000
set_option maxHeartbeats 16000000
theorem smp_prog : progG smpR smpS = (⟨1606, 3173, 300, 4479⟩, 0) := by kernel_rfl
theorem thr_sw : swG thrR (thr 5) 4 = ([⟨3, 3⟩, ⟨2, 2⟩, ⟨1, 1⟩], 0) := by kernel_rfl
theorem smp_place : ∀ x ∈ smpS.calls, i64 x.place := fun x hx => by
  simp [smpS] at hx
  rcases hx with rfl | rfl | rfl <;> exact ⟨by simp, by simp⟩
theorem thr_place {n : Nat} : (thr n).length ≤ 1000 ∧ ∀ s ∈ thr n, ∀ x ∈ s.calls, i64 x.place := by
  refine ⟨by simp [thr], fun s hs x hx => ?_⟩
  obtain ⟨m, _, rfl⟩ := List.mem_map.1 hs
  simp [thrS] at hx
  subst hx
  exact ⟨by simp, by simp⟩
def O13 : Nat → Sch := fun id => .done
theorem ho13 : Try.f13.body.map (okO O13) = some true := by kernel_rfl
def Cf13 : Nat → List AV → (AV → List AV → Sto → Prop) → Kt → List AV → Sto → Prop := fun f args K Q e s => match f with
  | 17 => ent17 args K e s
  | 26 => ent26 args K e s
  | 32 => ent32 args K e s
  | 33 => ent33 args K e s
  | 34 => ent34 args K e s
  | _ => False
def Ct13 : CT := { f := Cf13, y := noYld, z := fun d => false }
theorem ctz13 {d : Nat} : CT.z Ct13 d = (false) := id rfl
theorem Ct13_ok : Ct13.ok Try.prog := ok_of_f (fun f args K Q e s h => by
  have h : Cf13 f args K Q e s := h
  unfold Cf13 at h; split at h
  · exact ent17_ok h
  · exact ent26_ok h
  · exact ent32_ok h
  · exact ent33_ok h
  · exact ent34_ok h
  · exact h.elim) (fun _ _ _ _ _ _ _ _ _ h => h)
theorem x13_17 {r : Rul} {s : Ska} {KK : AV → List AV → Sto → Prop} {QQ : Kt} {ii : At KK} {jj : At QQ} {ee : List AV} {ss : Sto} : xC Ct13 17 [.d (r.d), .d (.agg s.c)] KK QQ ii jj ee ss = ((∀ x ∈ s.calls, i64 x.place) ∧ KK (.d (.tup [.agg (progG r s).1.c, .i (progG r s).2])) ee ss) := eq17
theorem x13_26 {r : Rul} {l : List Ska} {j : Int} {KK : AV → List AV → Sto → Prop} {QQ : Kt} {ii : At KK} {jj : At QQ} {ee : List AV} {ss : Sto} : xC Ct13 26 [.d (r.d), .d (.sl 3 (l.map Ska.c)), .d (.i j)] KK QQ ii jj ee ss = ((l.length ≤ 1000 ∧ ∀ s ∈ l, ∀ x ∈ s.calls, i64 x.place) ∧ KK (.d (.tup [.sl 2 ((swG r l j).1.map Spn.c), .i (swG r l j).2])) ee ss) := eq26
theorem x13_26_m1 {r : Rul} {l : List Ska} {j : Int} {g1 el1 : Nat} {KK : AV → List AV → Sto → Prop} {QQ : Kt} {ii : At KK} {jj : At QQ} {ee : List AV} {ss : Sto} : xC Ct13 26 [.d (r.d), .own g1 el1 3 (l.map Ska.c), .d (.i j)] KK QQ ii jj ee ss = ((l.length ≤ 1000 ∧ ∀ s ∈ l, ∀ x ∈ s.calls, i64 x.place) ∧ (.tup [.sl 2 ((swG r l j).1.map Spn.c), .i (swG r l j).2] : D).flat = true ∧ KK (.d (.tup [.sl 2 ((swG r l j).1.map Spn.c), .i (swG r l j).2])) ee ss) := eqo26
theorem x13_32 {a : List Spn} {b : List Spn} {KK : AV → List AV → Sto → Prop} {QQ : Kt} {ii : At KK} {jj : At QQ} {ee : List AV} {ss : Sto} : xC Ct13 32 [.d (.sl 2 (a.map Spn.c)), .d (.sl 2 (b.map Spn.c))] KK QQ ii jj ee ss = ((a.length ≤ 1000000) ∧ KK (.d (.b (decide (a = b)))) ee ss) := eq32
theorem x13_32_m1 {a : List Spn} {b : List Spn} {g1 el1 : Nat} {KK : AV → List AV → Sto → Prop} {QQ : Kt} {ii : At KK} {jj : At QQ} {ee : List AV} {ss : Sto} : xC Ct13 32 [.own g1 el1 2 (a.map Spn.c), .d (.sl 2 (b.map Spn.c))] KK QQ ii jj ee ss = ((a.length ≤ 1000000) ∧ (.b (decide (a = b)) : D).flat = true ∧ KK (.d (.b (decide (a = b)))) ee ss) := by
  show ent32 _ _ _ _ = _
  unfold ent32; rw [ent_iff (a, b) (by intro b h; simpa [Prod.ext_iff, and_assoc, Int.ofNat_inj, ints_inj, cals_inj, pcs_inj, skas_inj, scos_inj, ska_inj, rul_inj, sco_inj, cal_inj, ods_inj, od_inj, spns_inj] using h) rfl]; simp
theorem x13_32_m2 {a : List Spn} {b : List Spn} {g1 el1 : Nat} {KK : AV → List AV → Sto → Prop} {QQ : Kt} {ii : At KK} {jj : At QQ} {ee : List AV} {ss : Sto} : xC Ct13 32 [.d (.sl 2 (a.map Spn.c)), .own g1 el1 2 (b.map Spn.c)] KK QQ ii jj ee ss = ((a.length ≤ 1000000) ∧ (.b (decide (a = b)) : D).flat = true ∧ KK (.d (.b (decide (a = b)))) ee ss) := by
  show ent32 _ _ _ _ = _
  unfold ent32; rw [ent_iff (a, b) (by intro b h; simpa [Prod.ext_iff, and_assoc, Int.ofNat_inj, ints_inj, cals_inj, pcs_inj, skas_inj, scos_inj, ska_inj, rul_inj, sco_inj, cal_inj, ods_inj, od_inj, spns_inj] using h) rfl]; simp
theorem x13_32_m3 {a : List Spn} {b : List Spn} {g1 el1 : Nat} {g2 el2 : Nat} {KK : AV → List AV → Sto → Prop} {QQ : Kt} {ii : At KK} {jj : At QQ} {ee : List AV} {ss : Sto} : xC Ct13 32 [.own g1 el1 2 (a.map Spn.c), .own g2 el2 2 (b.map Spn.c)] KK QQ ii jj ee ss = ((a.length ≤ 1000000) ∧ (.b (decide (a = b)) : D).flat = true ∧ KK (.d (.b (decide (a = b)))) ee ss) := eqo32
theorem x13_33  {KK : AV → List AV → Sto → Prop} {QQ : Kt} {ii : At KK} {jj : At QQ} {ee : List AV} {ss : Sto} : xC Ct13 33 [] KK QQ ii jj ee ss = (KK (.d (.tup [smpR.d, .agg smpS.c])) ee ss) := eq33
theorem x13_34 {n : Nat} {KK : AV → List AV → Sto → Prop} {QQ : Kt} {ii : At KK} {jj : At QQ} {ee : List AV} {ss : Sto} : xC Ct13 34 [.d (.i (n : Int))] KK QQ ii jj ee ss = ((n ≤ 1000) ∧ KK (.d (.tup [thrR.d, .sl 3 ((thr n).map Ska.c)])) ee ss) := eq34
theorem c13 : callable Try.prog 13 = true := by kernel_rfl
theorem pf13  : PF Try.prog 13 [] (fun zz => zz = .ret (.b true)) := by
  have h1 := smp_prog
  have h2 := thr_sw
  have hp1 := smp_place
  have hp2 := thr_place (n := 5)
  have hx : ∀ {KK : AV → List AV → Sto → Prop} {QQ : Kt} {ii : At KK} {jj : At QQ} {ee : List AV} {ss : Sto}, xC Ct13 34 [.d (.v (.int .i64 5))] KK QQ ii jj ee ss = (5 ≤ 1000 ∧ KK (.d (.tup [thrR.d, .sl 3 ((thr 5).map Ska.c)])) ee ss) := x13_34 (n := 5)
  have hy : ∀ {KK : AV → List AV → Sto → Prop} {QQ : Kt} {ii : At KK} {jj : At QQ} {ee : List AV} {ss : Sto}, xC Ct13 32 [.d (.sl 2 [Spn.c ⟨3, 3⟩, Spn.c ⟨2, 2⟩, Spn.c ⟨1, 1⟩]), .own 42 63 2 [[.i 3, .i 3], [.i 2, .i 2], [.i 1, .i 1]]] KK QQ ii jj ee ss = ((3 ≤ 1000000) ∧ (D.b (decide (([⟨3, 3⟩, ⟨2, 2⟩, ⟨1, 1⟩] : List Spn) = [⟨3, 3⟩, ⟨2, 2⟩, ⟨1, 1⟩]))).flat = true ∧ KK (.d (.b (decide (([⟨3, 3⟩, ⟨2, 2⟩, ⟨1, 1⟩] : List Spn) = [⟨3, 3⟩, ⟨2, 2⟩, ⟨1, 1⟩])))) ee ss) := x13_32_m2 (a := [⟨3, 3⟩, ⟨2, 2⟩, ⟨1, 1⟩]) (b := [⟨3, 3⟩, ⟨2, 2⟩, ⟨1, 1⟩])
  refine PF_nil (PF_start (O := O13) Ct13_ok hmix ho13 Try.func13 c13 rfl Try.ntmps13 Try.results13 ?_)
  simp (maxSteps := 4000000) +contextual (disch := first | omega | exact qdb_ok (by kernel_rfl) | exact okb_ok (by kernel_rfl)) only [bw1,bw2,bw3,bw4,bw5,bw6,bw7,bc0,bc1,bc2,bc3,bc4,bc5,bc6,bc7,setPs,AV.owns,AV.datF,AV.frz,AV.cpy,ifV,isEqB,nilV,nilX,AV.isNilS,AV.isNoRows,wk,dclo,datOf,binIs,addF,AV.isPtr,idxV,AV.isSl,AV.isSlice,AV.rows,ps,pv,extV,extS,AV.outs,AV.outF,packD,AV.dl,fieldV,fieldS,AV.cells?,AV.upr,AV.menc,AV.one,D.one,Value.oneCell',tagOf,AV.isApp,strV,strS,bolV,bolS,slcV,AV.isSlD,asrtS,AV.dcells,D.cells?,stcV,stcS,leafOk,eqDs,eqD,packA,D.val?,↓reduceIte,reduceCtorEq,Nat.reduceAdd,Nat.reduceSub,Nat.reduceMul,List.reduceReplicate,Nat.reduceLeDiff,Nat.reduceLT,Nat.reduceBEq,Nat.reduceEqDiff,Int.reduceNeg,Int.reduceEq,Int.reduceLE,Int.reduceLT,tfb,ctz13,x13_17,x13_26,x13_26_m1,x13_32,x13_32_m1,x13_32_m2,x13_32_m3,x13_33,x13_34,h1, h2, hx, hy]
  exact ⟨hp1, hp2, rfl⟩
def ent13 (args : List AV) (K : AV → List AV → Sto → Prop) (e : List AV) (s : Sto) : Prop := ent (α := Unit) (fun aa => []) (fun aa => True) (fun aa => .b true) args K e s
theorem ent13_ok {args : List AV} {K : AV → List AV → Sto → Prop} {Q : Kt} {e : List AV} {s : Sto} (h : ent13 args K e s) : pcall Try.prog 13 args K Q e s := ent_ok (fun aa h => pf13 ) h
theorem eq13  {KK : AV → List AV → Sto → Prop} {ee : List AV} {ss : Sto} : ent13 [] KK ee ss = (KK (.d (.b true)) ee ss) := by
  unfold ent13; rw [ent_iff () (by intro b h; cases b; rfl) rfl]; simp
theorem c5 : callable Try.prog 5 = true := by kernel_rfl
end Go.Proofs.Ytapglfcaghlpfaa
