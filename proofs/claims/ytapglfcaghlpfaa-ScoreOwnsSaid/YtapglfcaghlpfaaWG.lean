/- A part of the proof that the last text ends: what functions of the program do, told by plain data. -/
import Derived.Test.YtapglfcaghlpfaaWF
set_option linter.unusedVariables false
set_option linter.unusedSimpArgs false
namespace Go.Proofs.Ytapglfcaghlpfaa.N0
open Go Go.E Go.Maps
set_option maxRecDepth 100000
set_option maxHeartbeats 16000000
/-! ### ScoreOwns -/
theorem great_few {l : List Ska} (h : ¬ great l 8 = true) : l.length ≤ 8 ∧ ∀ s ∈ l, Few s := by
  unfold great big at h
  simp only [Bool.or_eq_true, decide_eq_true_eq, not_or, List.any_eq_true, not_exists, not_and] at h
  obtain ⟨h1, h2⟩ := h
  refine ⟨by omega, fun s hs => ?_⟩
  obtain ⟨⟨⟨a, b⟩, c⟩, d⟩ := h2 s hs
  exact ⟨by omega, by omega, fun x hx => by have := c x hx; omega, fun x hx => by have := d x hx; omega⟩
def O8 : Nat → Sch := fun id => .done
theorem ho8 : Try.f8.body.map (okO O8) = some true := by kernel_rfl
def Cf8 : Nat → List AV → (AV → List AV → Sto → Prop) → Kt → List AV → Sto → Prop := fun f args K Q e s => match f with
  | 11 => ent11 args K e s
  | 13 => ent13 args K e s
  | 22 => ent22 args K e s
  | 24 => ent24 args K e s
  | 26 => ent26 args K e s
  | 30 => ent30 (AV.outs s args) K (mk _) e s
  | 31 => ent31 args K e s
  | 32 => ent32 args K e s
  | _ => False
def Ct8 : CT := { f := Cf8, y := noYld, z := fun d => false }
theorem ctz8 {d : Nat} : CT.z Ct8 d = (false) := id rfl
theorem Ct8_ok : Ct8.ok Try.prog := ok_of_f (fun f args K Q e s h => by
  have h : Cf8 f args K Q e s := h
  unfold Cf8 at h; split at h
  · exact ent11_ok h
  · exact ent13_ok h
  · exact ent22_ok h
  · exact ent24_ok h
  · exact ent26_ok h
  · exact ent30_ok h
  · exact ent31_ok h
  · exact ent32_ok h
  · exact h.elim) (fun _ _ _ _ _ _ _ _ _ h => h)
theorem x8_11 {l : List Ska} {most : Int} {KK : AV → List AV → Sto → Prop} {QQ : Kt} {ii : At KK} {jj : At QQ} {ee : List AV} {ss : Sto} : xC Ct8 11 [.d (.sl 3 (l.map Ska.c)), .d (.i most)] KK QQ ii jj ee ss = ((0 ≤ most ∧ most ≤ 1000) ∧ KK (.d (.b (great l most))) ee ss) := eq11
theorem x8_11_m1 {l : List Ska} {most : Int} {g1 el1 : Nat} {KK : AV → List AV → Sto → Prop} {QQ : Kt} {ii : At KK} {jj : At QQ} {ee : List AV} {ss : Sto} : xC Ct8 11 [.own g1 el1 3 (l.map Ska.c), .d (.i most)] KK QQ ii jj ee ss = ((0 ≤ most ∧ most ≤ 1000) ∧ (.b (great l most) : D).flat = true ∧ KK (.d (.b (great l most))) ee ss) := eqo11
theorem x8_13  {KK : AV → List AV → Sto → Prop} {QQ : Kt} {ii : At KK} {jj : At QQ} {ee : List AV} {ss : Sto} : xC Ct8 13 [] KK QQ ii jj ee ss = (KK (.d (.b true)) ee ss) := eq13
theorem x8_22 {r : Rul} {s : Ska} {KK : AV → List AV → Sto → Prop} {QQ : Kt} {ii : At KK} {jj : At QQ} {ee : List AV} {ss : Sto} : xC Ct8 22 [.d (r.d), .d (.agg s.c)] KK QQ ii jj ee ss = ((∀ x ∈ s.calls, i64 x.place) ∧ KK (.tup [.own 1903 3 1 ((valsG r s).1.map ic), .d (.i (valsG r s).2)]) (ee.map (AV.kill 1903)) (ss.kill 1903)) := eq22
theorem x8_24 {a : List Int} {b : List Int} {KK : AV → List AV → Sto → Prop} {QQ : Kt} {ii : At KK} {jj : At QQ} {ee : List AV} {ss : Sto} : xC Ct8 24 [.d (.sl 1 (a.map ic)), .d (.sl 1 (b.map ic))] KK QQ ii jj ee ss = ((a.length ≤ 1000000) ∧ KK (.d (.b (decide (a = b)))) ee ss) := eq24
theorem x8_24_m1 {a : List Int} {b : List Int} {g1 el1 : Nat} {KK : AV → List AV → Sto → Prop} {QQ : Kt} {ii : At KK} {jj : At QQ} {ee : List AV} {ss : Sto} : xC Ct8 24 [.own g1 el1 1 (a.map ic), .d (.sl 1 (b.map ic))] KK QQ ii jj ee ss = ((a.length ≤ 1000000) ∧ (.b (decide (a = b)) : D).flat = true ∧ KK (.d (.b (decide (a = b)))) ee ss) := by
  show ent24 _ _ _ _ = _
  unfold ent24; rw [ent_iff (a, b) (by intro b h; simpa [Prod.ext_iff, and_assoc, Int.ofNat_inj, ints_inj, cals_inj, pcs_inj, skas_inj, scos_inj, ska_inj, rul_inj, sco_inj, cal_inj, ods_inj, od_inj, spns_inj, Int.ofNat_inj, ints_inj, cals_inj, pcs_inj, skas_inj, scos_inj, ska_inj, rul_inj, sco_inj, cal_inj, Int.ofNat_inj, ints_inj, cals_inj, pcs_inj, skas_inj, scos_inj, ska_inj, rul_inj, sco_inj, cal_inj, ods_inj, od_inj, spns_inj, Int.ofNat_inj, ints_inj, cals_inj, pcs_inj, skas_inj, scos_inj, ska_inj, rul_inj, sco_inj, cal_inj, ods_inj, od_inj, spns_inj, Int.ofNat_inj, ints_inj, cals_inj, pcs_inj, skas_inj, scos_inj, ska_inj, rul_inj, sco_inj, cal_inj, Int.ofNat_inj, ints_inj, cals_inj, pcs_inj, skas_inj, scos_inj, ska_inj, rul_inj, sco_inj, cal_inj, ods_inj, od_inj, spns_inj] using h) rfl]; simp
theorem x8_24_m2 {a : List Int} {b : List Int} {g1 el1 : Nat} {KK : AV → List AV → Sto → Prop} {QQ : Kt} {ii : At KK} {jj : At QQ} {ee : List AV} {ss : Sto} : xC Ct8 24 [.d (.sl 1 (a.map ic)), .own g1 el1 1 (b.map ic)] KK QQ ii jj ee ss = ((a.length ≤ 1000000) ∧ (.b (decide (a = b)) : D).flat = true ∧ KK (.d (.b (decide (a = b)))) ee ss) := by
  show ent24 _ _ _ _ = _
  unfold ent24; rw [ent_iff (a, b) (by intro b h; simpa [Prod.ext_iff, and_assoc, Int.ofNat_inj, ints_inj, cals_inj, pcs_inj, skas_inj, scos_inj, ska_inj, rul_inj, sco_inj, cal_inj, ods_inj, od_inj, spns_inj, Int.ofNat_inj, ints_inj, cals_inj, pcs_inj, skas_inj, scos_inj, ska_inj, rul_inj, sco_inj, cal_inj, Int.ofNat_inj, ints_inj, cals_inj, pcs_inj, skas_inj, scos_inj, ska_inj, rul_inj, sco_inj, cal_inj, ods_inj, od_inj, spns_inj, Int.ofNat_inj, ints_inj, cals_inj, pcs_inj, skas_inj, scos_inj, ska_inj, rul_inj, sco_inj, cal_inj, ods_inj, od_inj, spns_inj, Int.ofNat_inj, ints_inj, cals_inj, pcs_inj, skas_inj, scos_inj, ska_inj, rul_inj, sco_inj, cal_inj, Int.ofNat_inj, ints_inj, cals_inj, pcs_inj, skas_inj, scos_inj, ska_inj, rul_inj, sco_inj, cal_inj, ods_inj, od_inj, spns_inj] using h) rfl]; simp
theorem x8_24_m3 {a : List Int} {b : List Int} {g1 el1 : Nat} {g2 el2 : Nat} {KK : AV → List AV → Sto → Prop} {QQ : Kt} {ii : At KK} {jj : At QQ} {ee : List AV} {ss : Sto} : xC Ct8 24 [.own g1 el1 1 (a.map ic), .own g2 el2 1 (b.map ic)] KK QQ ii jj ee ss = ((a.length ≤ 1000000) ∧ (.b (decide (a = b)) : D).flat = true ∧ KK (.d (.b (decide (a = b)))) ee ss) := eqo24
theorem x8_26 {r : Rul} {l : List Ska} {j : Int} {KK : AV → List AV → Sto → Prop} {QQ : Kt} {ii : At KK} {jj : At QQ} {ee : List AV} {ss : Sto} : xC Ct8 26 [.d (r.d), .d (.sl 3 (l.map Ska.c)), .d (.i j)] KK QQ ii jj ee ss = ((l.length ≤ 1000 ∧ ∀ s ∈ l, ∀ x ∈ s.calls, i64 x.place) ∧ KK (.tup [.own 1904 63 2 ((swG r l j).1.map Spn.c), .d (.i (swG r l j).2)]) (ee.map (AV.kill 1904)) (ss.kill 1904)) := eq26
theorem x8_30 {args : List AV} {KK : AV → List AV → Sto → Prop} {QQ : Kt} {ii : At KK} {jj : At QQ} {ee : List AV} {ss : Sto} : xC Ct8 30 args KK QQ ii jj ee ss = ent30 (AV.outs ss args) KK (mk _) ee ss := id rfl
theorem x8_31 {r : Rul} {l : List Ska} {first : Int} {KK : AV → List AV → Sto → Prop} {QQ : Kt} {ii : At KK} {jj : At QQ} {ee : List AV} {ss : Sto} : xC Ct8 31 [.d (r.d), .d (.sl 3 (l.map Ska.c)), .d (.i first)] KK QQ ii jj ee ss = (((l.length ≤ 1000 ∧ (l.length ≤ 12 ∨ 40 < l.length)) ∧ (∀ s ∈ l, ∀ x ∈ s.calls, i64 x.place) ∧ i64 first) ∧ KK (.d (.tup [.sl 1 ((opG r l first).1.map ic), .i (opG r l first).2])) ee ss) := eq31
theorem x8_31_m1 {r : Rul} {l : List Ska} {first : Int} {g1 el1 : Nat} {KK : AV → List AV → Sto → Prop} {QQ : Kt} {ii : At KK} {jj : At QQ} {ee : List AV} {ss : Sto} : xC Ct8 31 [.d (r.d), .own g1 el1 3 (l.map Ska.c), .d (.i first)] KK QQ ii jj ee ss = (((l.length ≤ 1000 ∧ (l.length ≤ 12 ∨ 40 < l.length)) ∧ (∀ s ∈ l, ∀ x ∈ s.calls, i64 x.place) ∧ i64 first) ∧ (.tup [.sl 1 ((opG r l first).1.map ic), .i (opG r l first).2] : D).flat = true ∧ KK (.d (.tup [.sl 1 ((opG r l first).1.map ic), .i (opG r l first).2])) ee ss) := eqo31
theorem x8_32 {a : List Spn} {b : List Spn} {KK : AV → List AV → Sto → Prop} {QQ : Kt} {ii : At KK} {jj : At QQ} {ee : List AV} {ss : Sto} : xC Ct8 32 [.d (.sl 2 (a.map Spn.c)), .d (.sl 2 (b.map Spn.c))] KK QQ ii jj ee ss = ((a.length ≤ 1000000) ∧ KK (.d (.b (decide (a = b)))) ee ss) := eq32
theorem x8_32_m1 {a : List Spn} {b : List Spn} {g1 el1 : Nat} {KK : AV → List AV → Sto → Prop} {QQ : Kt} {ii : At KK} {jj : At QQ} {ee : List AV} {ss : Sto} : xC Ct8 32 [.own g1 el1 2 (a.map Spn.c), .d (.sl 2 (b.map Spn.c))] KK QQ ii jj ee ss = ((a.length ≤ 1000000) ∧ (.b (decide (a = b)) : D).flat = true ∧ KK (.d (.b (decide (a = b)))) ee ss) := by
  show ent32 _ _ _ _ = _
  unfold ent32; rw [ent_iff (a, b) (by intro b h; simpa [Prod.ext_iff, and_assoc, Int.ofNat_inj, ints_inj, cals_inj, pcs_inj, skas_inj, scos_inj, ska_inj, rul_inj, sco_inj, cal_inj, ods_inj, od_inj, spns_inj, Int.ofNat_inj, ints_inj, cals_inj, pcs_inj, skas_inj, scos_inj, ska_inj, rul_inj, sco_inj, cal_inj, Int.ofNat_inj, ints_inj, cals_inj, pcs_inj, skas_inj, scos_inj, ska_inj, rul_inj, sco_inj, cal_inj, ods_inj, od_inj, spns_inj, Int.ofNat_inj, ints_inj, cals_inj, pcs_inj, skas_inj, scos_inj, ska_inj, rul_inj, sco_inj, cal_inj, ods_inj, od_inj, spns_inj, Int.ofNat_inj, ints_inj, cals_inj, pcs_inj, skas_inj, scos_inj, ska_inj, rul_inj, sco_inj, cal_inj, Int.ofNat_inj, ints_inj, cals_inj, pcs_inj, skas_inj, scos_inj, ska_inj, rul_inj, sco_inj, cal_inj, ods_inj, od_inj, spns_inj] using h) rfl]; simp
theorem x8_32_m2 {a : List Spn} {b : List Spn} {g1 el1 : Nat} {KK : AV → List AV → Sto → Prop} {QQ : Kt} {ii : At KK} {jj : At QQ} {ee : List AV} {ss : Sto} : xC Ct8 32 [.d (.sl 2 (a.map Spn.c)), .own g1 el1 2 (b.map Spn.c)] KK QQ ii jj ee ss = ((a.length ≤ 1000000) ∧ (.b (decide (a = b)) : D).flat = true ∧ KK (.d (.b (decide (a = b)))) ee ss) := by
  show ent32 _ _ _ _ = _
  unfold ent32; rw [ent_iff (a, b) (by intro b h; simpa [Prod.ext_iff, and_assoc, Int.ofNat_inj, ints_inj, cals_inj, pcs_inj, skas_inj, scos_inj, ska_inj, rul_inj, sco_inj, cal_inj, ods_inj, od_inj, spns_inj, Int.ofNat_inj, ints_inj, cals_inj, pcs_inj, skas_inj, scos_inj, ska_inj, rul_inj, sco_inj, cal_inj, Int.ofNat_inj, ints_inj, cals_inj, pcs_inj, skas_inj, scos_inj, ska_inj, rul_inj, sco_inj, cal_inj, ods_inj, od_inj, spns_inj, Int.ofNat_inj, ints_inj, cals_inj, pcs_inj, skas_inj, scos_inj, ska_inj, rul_inj, sco_inj, cal_inj, ods_inj, od_inj, spns_inj, Int.ofNat_inj, ints_inj, cals_inj, pcs_inj, skas_inj, scos_inj, ska_inj, rul_inj, sco_inj, cal_inj, Int.ofNat_inj, ints_inj, cals_inj, pcs_inj, skas_inj, scos_inj, ska_inj, rul_inj, sco_inj, cal_inj, ods_inj, od_inj, spns_inj] using h) rfl]; simp
theorem x8_32_m3 {a : List Spn} {b : List Spn} {g1 el1 : Nat} {g2 el2 : Nat} {KK : AV → List AV → Sto → Prop} {QQ : Kt} {ii : At KK} {jj : At QQ} {ee : List AV} {ss : Sto} : xC Ct8 32 [.own g1 el1 2 (a.map Spn.c), .own g2 el2 2 (b.map Spn.c)] KK QQ ii jj ee ss = ((a.length ≤ 1000000) ∧ (.b (decide (a = b)) : D).flat = true ∧ KK (.d (.b (decide (a = b)))) ee ss) := eqo32
theorem c8 : callable Try.prog 8 = true := by kernel_rfl
theorem pf8 (r : Rul) (l : List Ska) (j first : Int) (h : (∀ s ∈ l, ∀ x ∈ s.calls, i64 x.place) ∧ i64 first) : PF Try.prog 8 [r.d, .sl 3 (l.map Ska.c), .i j, .i first] (fun zz => zz = .ret (.b true)) := by
  obtain ⟨h0, hf⟩ := h
  by_cases c1 : (80 : Int) < r.bases.length
  · refine PF_nil (PF_start (O := O8) Ct8_ok hmix ho8 Try.func8 c8 rfl Try.ntmps8 Try.results8 ?_)
    simp (maxSteps := 4000000) +contextual (disch := first | omega | exact qdb_ok (by kernel_rfl) | exact okb_ok (by kernel_rfl)) only [bw1,bw2,bw3,bw4,bw5,bw6,bw7,bc0,bc1,bc2,bc3,bc4,bc5,bc6,bc7,setPs,AV.owns,AV.datF,AV.frz,AV.cpy,ifV,isEqB,nilV,nilX,AV.isNilS,AV.isNoRows,wk,dclo,datOf,binIs,addF,AV.isPtr,idxV,AV.isSl,AV.isSlice,AV.rows,ps,pv,extV,extS,AV.outs,AV.outF,packD,AV.dl,fieldV,fieldS,AV.cells?,AV.upr,AV.menc,AV.one,D.one,Value.oneCell',tagOf,AV.isApp,strV,strS,bolV,bolS,slcV,AV.isSlD,asrtS,AV.dcells,D.cells?,stcV,stcS,leafOk,eqDs,eqD,packA,D.val?,↓reduceIte,reduceCtorEq,Nat.reduceAdd,Nat.reduceSub,Nat.reduceMul,List.reduceReplicate,Nat.reduceLeDiff,Nat.reduceLT,Nat.reduceBEq,Nat.reduceEqDiff,Int.reduceNeg,Int.reduceEq,Int.reduceLE,Int.reduceLT,tfb,ctz8,x8_11,x8_11_m1,x8_13,x8_22,x8_24,x8_24_m1,x8_24_m2,x8_24_m3,x8_26,x8_30,eq30,x8_31,x8_31_m1,x8_32,x8_32_m1,x8_32_m2,x8_32_m3,c1]
  by_cases c2 : great l 8 = true
  · refine PF_nil (PF_start (O := O8) Ct8_ok hmix ho8 Try.func8 c8 rfl Try.ntmps8 Try.results8 ?_)
    simp (maxSteps := 4000000) +contextual (disch := first | omega | exact qdb_ok (by kernel_rfl) | exact okb_ok (by kernel_rfl)) only [bw1,bw2,bw3,bw4,bw5,bw6,bw7,bc0,bc1,bc2,bc3,bc4,bc5,bc6,bc7,setPs,AV.owns,AV.datF,AV.frz,AV.cpy,ifV,isEqB,nilV,nilX,AV.isNilS,AV.isNoRows,wk,dclo,datOf,binIs,addF,AV.isPtr,idxV,AV.isSl,AV.isSlice,AV.rows,ps,pv,extV,extS,AV.outs,AV.outF,packD,AV.dl,fieldV,fieldS,AV.cells?,AV.upr,AV.menc,AV.one,D.one,Value.oneCell',tagOf,AV.isApp,strV,strS,bolV,bolS,slcV,AV.isSlD,asrtS,AV.dcells,D.cells?,stcV,stcS,leafOk,eqDs,eqD,packA,D.val?,↓reduceIte,reduceCtorEq,Nat.reduceAdd,Nat.reduceSub,Nat.reduceMul,List.reduceReplicate,Nat.reduceLeDiff,Nat.reduceLT,Nat.reduceBEq,Nat.reduceEqDiff,Int.reduceNeg,Int.reduceEq,Int.reduceLE,Int.reduceLT,tfb,ctz8,x8_11,x8_11_m1,x8_13,x8_22,x8_24,x8_24_m1,x8_24_m2,x8_24_m3,x8_26,x8_30,eq30,x8_31,x8_31_m1,x8_32,x8_32_m1,x8_32_m2,x8_32_m3,c1, c2]
    try rfl
  obtain ⟨hl8, hfew⟩ := great_few c2
  obtain ⟨A, hA⟩ : ∃ A, A = swG r l j := ⟨_, rfl⟩
  have hA' : swG r l j = A := hA.symm
  have hal : A.1.length ≤ 8 := by
    rw [hA]; unfold swG
    split
    · split
      · rw [swR_len]; exact hl8
      · simp
    · simp
  refine PF_nil (PF_start (O := O8) Ct8_ok hmix ho8 Try.func8 c8 rfl Try.ntmps8 Try.results8 ?_)
  simp (maxSteps := 4000000) +contextual (disch := first | omega | exact qdb_ok (by kernel_rfl) | exact okb_ok (by kernel_rfl)) only [bw1,bw2,bw3,bw4,bw5,bw6,bw7,bc0,bc1,bc2,bc3,bc4,bc5,bc6,bc7,setPs,AV.owns,AV.datF,AV.frz,AV.cpy,ifV,isEqB,nilV,nilX,AV.isNilS,AV.isNoRows,wk,dclo,datOf,binIs,addF,AV.isPtr,idxV,AV.isSl,AV.isSlice,AV.rows,ps,pv,extV,extS,AV.outs,AV.outF,packD,AV.dl,fieldV,fieldS,AV.cells?,AV.upr,AV.menc,AV.one,D.one,Value.oneCell',tagOf,AV.isApp,strV,strS,bolV,bolS,slcV,AV.isSlD,asrtS,AV.dcells,D.cells?,stcV,stcS,leafOk,eqDs,eqD,packA,D.val?,↓reduceIte,reduceCtorEq,Nat.reduceAdd,Nat.reduceSub,Nat.reduceMul,List.reduceReplicate,Nat.reduceLeDiff,Nat.reduceLT,Nat.reduceBEq,Nat.reduceEqDiff,Int.reduceNeg,Int.reduceEq,Int.reduceLE,Int.reduceLT,tfb,ctz8,x8_11,x8_11_m1,x8_13,x8_22,x8_24,x8_24_m1,x8_24_m2,x8_24_m3,x8_26,x8_30,eq30,x8_31,x8_31_m1,x8_32,x8_32_m1,x8_32_m2,x8_32_m3,c1, c2, hA']
  refine ⟨⟨⟨by omega, hl8⟩, hfew⟩, ⟨by omega, h0⟩, by omega, by omega, ?_⟩
  refine loop_xu (O := O8) (tb := 0) Ct8_ok hmix (by kernel_rfl) (σ := Nat × List Spn) (fun x => [(11, .own 1904 63 2 (x.2.map Spn.c)), (34, .any), (38, .any), (39, .any), (42, .any), (44, .any), (46, .i x.1)]) (fun x => []) (fun x => x.1 ≤ A.1.length ∧ x.2.length = A.1.length) (fun x => A.1.length - x.1) (0, A.1) ⟨by dsimp only; omega, rfl⟩ ?_ ?_
  · simp (maxSteps := 4000000) +contextual (disch := first | omega | exact qdb_ok (by kernel_rfl) | exact okb_ok (by kernel_rfl)) only [bw1,bw2,bw3,bw4,bw5,bw6,bw7,bc0,bc1,bc2,bc3,bc4,bc5,bc6,bc7,setPs,AV.owns,AV.datF,AV.frz,AV.cpy,ifV,isEqB,nilV,nilX,AV.isNilS,AV.isNoRows,wk,dclo,datOf,binIs,addF,AV.isPtr,idxV,AV.isSl,AV.isSlice,AV.rows,ps,pv,extV,extS,AV.outs,AV.outF,packD,AV.dl,fieldV,fieldS,AV.cells?,AV.upr,AV.menc,AV.one,D.one,Value.oneCell',tagOf,AV.isApp,strV,strS,bolV,bolS,slcV,AV.isSlD,asrtS,AV.dcells,D.cells?,stcV,stcS,leafOk,eqDs,eqD,packA,D.val?,↓reduceIte,reduceCtorEq,Nat.reduceAdd,Nat.reduceSub,Nat.reduceMul,List.reduceReplicate,Nat.reduceLeDiff,Nat.reduceLT,Nat.reduceBEq,Nat.reduceEqDiff,Int.reduceNeg,Int.reduceEq,Int.reduceLE,Int.reduceLT,tfb,ctz8,x8_11,x8_11_m1,x8_13,x8_22,x8_24,x8_24_m1,x8_24_m2,x8_24_m3,x8_26,x8_30,eq30,x8_31,x8_31_m1,x8_32,x8_32_m1,x8_32_m2,x8_32_m3,eq_self]
  rintro ⟨k, R⟩ ⟨hk, hR⟩
  dsimp only at hk hR ⊢
  by_cases hkt : k < A.1.length
  · have hkt' : (k : Int) < A.1.length := by omega
    have hkr : (k : Int) < R.length := by omega
    simp (maxSteps := 4000000) +contextual (disch := first | omega | exact qdb_ok (by kernel_rfl) | exact okb_ok (by kernel_rfl)) only [bw1,bw2,bw3,bw4,bw5,bw6,bw7,bc0,bc1,bc2,bc3,bc4,bc5,bc6,bc7,setPs,AV.owns,AV.datF,AV.frz,AV.cpy,ifV,isEqB,nilV,nilX,AV.isNilS,AV.isNoRows,wk,dclo,datOf,binIs,addF,AV.isPtr,idxV,AV.isSl,AV.isSlice,AV.rows,ps,pv,extV,extS,AV.outs,AV.outF,packD,AV.dl,fieldV,fieldS,AV.cells?,AV.upr,AV.menc,AV.one,D.one,Value.oneCell',tagOf,AV.isApp,strV,strS,bolV,bolS,slcV,AV.isSlD,asrtS,AV.dcells,D.cells?,stcV,stcS,leafOk,eqDs,eqD,packA,D.val?,↓reduceIte,reduceCtorEq,Nat.reduceAdd,Nat.reduceSub,Nat.reduceMul,List.reduceReplicate,Nat.reduceLeDiff,Nat.reduceLT,Nat.reduceBEq,Nat.reduceEqDiff,Int.reduceNeg,Int.reduceEq,Int.reduceLE,Int.reduceLT,tfb,ctz8,x8_11,x8_11_m1,x8_13,x8_22,x8_24,x8_24_m1,x8_24_m2,x8_24_m3,x8_26,x8_30,eq30,x8_31,x8_31_m1,x8_32,x8_32_m1,x8_32_m2,x8_32_m3,eq_self, hkt', hkr, hR, List.length_map]
    exact ⟨by omega, ⟨k + 1, R.set k ⟨-1, (R.getD k default).hi⟩⟩, ⟨⟨by dsimp only; omega, by dsimp only; rw [List.length_set]; exact hR⟩, by dsimp only; omega⟩, by dsimp only; rw [List.map_set], rfl⟩
  have hkt' : ¬ (k : Int) < A.1.length := by omega
  obtain rfl : k = A.1.length := by omega
  simp (maxSteps := 4000000) +contextual (disch := first | omega | exact qdb_ok (by kernel_rfl) | exact okb_ok (by kernel_rfl)) only [bw1,bw2,bw3,bw4,bw5,bw6,bw7,bc0,bc1,bc2,bc3,bc4,bc5,bc6,bc7,setPs,AV.owns,AV.datF,AV.frz,AV.cpy,ifV,isEqB,nilV,nilX,AV.isNilS,AV.isNoRows,wk,dclo,datOf,binIs,addF,AV.isPtr,idxV,AV.isSl,AV.isSlice,AV.rows,ps,pv,extV,extS,AV.outs,AV.outF,packD,AV.dl,fieldV,fieldS,AV.cells?,AV.upr,AV.menc,AV.one,D.one,Value.oneCell',tagOf,AV.isApp,strV,strS,bolV,bolS,slcV,AV.isSlD,asrtS,AV.dcells,D.cells?,stcV,stcS,leafOk,eqDs,eqD,packA,D.val?,↓reduceIte,reduceCtorEq,Nat.reduceAdd,Nat.reduceSub,Nat.reduceMul,List.reduceReplicate,Nat.reduceLeDiff,Nat.reduceLT,Nat.reduceBEq,Nat.reduceEqDiff,Int.reduceNeg,Int.reduceEq,Int.reduceLE,Int.reduceLT,tfb,ctz8,x8_11,x8_11_m1,x8_13,x8_22,x8_24,x8_24_m1,x8_24_m2,x8_24_m3,x8_26,x8_30,eq30,x8_31,x8_31_m1,x8_32,x8_32_m1,x8_32_m2,x8_32_m3,eq_self, hkt', Int.lt_irrefl]
  refine ⟨⟨⟨by omega, .inl (by omega)⟩, h0, hf⟩, ?_⟩
  refine loop_xu (O := O8) (tb := 0) Ct8_ok hmix (by kernel_rfl) (σ := Nat) (fun k => [(60, .i k)]) (fun x => []) (fun k => k ≤ l.length) (fun k => l.length - k) 0 (by omega) ?_ ?_
  · simp (maxSteps := 4000000) +contextual (disch := first | omega | exact qdb_ok (by kernel_rfl) | exact okb_ok (by kernel_rfl)) only [bw1,bw2,bw3,bw4,bw5,bw6,bw7,bc0,bc1,bc2,bc3,bc4,bc5,bc6,bc7,setPs,AV.owns,AV.datF,AV.frz,AV.cpy,ifV,isEqB,nilV,nilX,AV.isNilS,AV.isNoRows,wk,dclo,datOf,binIs,addF,AV.isPtr,idxV,AV.isSl,AV.isSlice,AV.rows,ps,pv,extV,extS,AV.outs,AV.outF,packD,AV.dl,fieldV,fieldS,AV.cells?,AV.upr,AV.menc,AV.one,D.one,Value.oneCell',tagOf,AV.isApp,strV,strS,bolV,bolS,slcV,AV.isSlD,asrtS,AV.dcells,D.cells?,stcV,stcS,leafOk,eqDs,eqD,packA,D.val?,↓reduceIte,reduceCtorEq,Nat.reduceAdd,Nat.reduceSub,Nat.reduceMul,List.reduceReplicate,Nat.reduceLeDiff,Nat.reduceLT,Nat.reduceBEq,Nat.reduceEqDiff,Int.reduceNeg,Int.reduceEq,Int.reduceLE,Int.reduceLT,tfb,ctz8,x8_11,x8_11_m1,x8_13,x8_22,x8_24,x8_24_m1,x8_24_m2,x8_24_m3,x8_26,x8_30,eq30,x8_31,x8_31_m1,x8_32,x8_32_m1,x8_32_m2,x8_32_m3,eq_self]
  intro k hk
  by_cases hkt : k < l.length
  · have hkt' : (k : Int) < l.length := by omega
    obtain ⟨V, hV⟩ : ∃ V, V = valsG r (l.getD k default) := ⟨_, rfl⟩
    have hV' : valsG r (l.getD k default) = V := hV.symm
    have hvl : V.1.length ≤ 24 := by
      have := (hfew (l.getD k default) (by rw [at_lt hkt]; exact List.getElem_mem _)).calls
      rw [hV]; unfold valsG
      split
      · rw [valsR_len]; exact this
      · simp
    have hi := h0 (l.getD k default) (by rw [at_lt hkt]; exact List.getElem_mem _)
    simp (maxSteps := 4000000) +contextual (disch := first | omega | exact qdb_ok (by kernel_rfl) | exact okb_ok (by kernel_rfl)) only [bw1,bw2,bw3,bw4,bw5,bw6,bw7,bc0,bc1,bc2,bc3,bc4,bc5,bc6,bc7,setPs,AV.owns,AV.datF,AV.frz,AV.cpy,ifV,isEqB,nilV,nilX,AV.isNilS,AV.isNoRows,wk,dclo,datOf,binIs,addF,AV.isPtr,idxV,AV.isSl,AV.isSlice,AV.rows,ps,pv,extV,extS,AV.outs,AV.outF,packD,AV.dl,fieldV,fieldS,AV.cells?,AV.upr,AV.menc,AV.one,D.one,Value.oneCell',tagOf,AV.isApp,strV,strS,bolV,bolS,slcV,AV.isSlD,asrtS,AV.dcells,D.cells?,stcV,stcS,leafOk,eqDs,eqD,packA,D.val?,↓reduceIte,reduceCtorEq,Nat.reduceAdd,Nat.reduceSub,Nat.reduceMul,List.reduceReplicate,Nat.reduceLeDiff,Nat.reduceLT,Nat.reduceBEq,Nat.reduceEqDiff,Int.reduceNeg,Int.reduceEq,Int.reduceLE,Int.reduceLT,tfb,ctz8,x8_11,x8_11_m1,x8_13,x8_22,x8_24,x8_24_m1,x8_24_m2,x8_24_m3,x8_26,x8_30,eq30,x8_31,x8_31_m1,x8_32,x8_32_m1,x8_32_m2,x8_32_m3,eq_self, hkt', hV']
    refine ⟨by omega, hi, ?_⟩
    refine loop_xu (O := O8) (tb := 0) Ct8_ok hmix (by kernel_rfl) (σ := Nat × List Int) (fun x => [(17, .own 1903 3 1 (x.2.map ic)), (64, .any), (67, .any), (68, .any), (70, .any), (72, .i x.1)]) (fun x => []) (fun x => x.1 ≤ V.1.length ∧ x.2.length = V.1.length) (fun x => V.1.length - x.1) (0, V.1) ⟨by dsimp only; omega, rfl⟩ ?_ ?_
    · simp (maxSteps := 4000000) +contextual (disch := first | omega | exact qdb_ok (by kernel_rfl) | exact okb_ok (by kernel_rfl)) only [bw1,bw2,bw3,bw4,bw5,bw6,bw7,bc0,bc1,bc2,bc3,bc4,bc5,bc6,bc7,setPs,AV.owns,AV.datF,AV.frz,AV.cpy,ifV,isEqB,nilV,nilX,AV.isNilS,AV.isNoRows,wk,dclo,datOf,binIs,addF,AV.isPtr,idxV,AV.isSl,AV.isSlice,AV.rows,ps,pv,extV,extS,AV.outs,AV.outF,packD,AV.dl,fieldV,fieldS,AV.cells?,AV.upr,AV.menc,AV.one,D.one,Value.oneCell',tagOf,AV.isApp,strV,strS,bolV,bolS,slcV,AV.isSlD,asrtS,AV.dcells,D.cells?,stcV,stcS,leafOk,eqDs,eqD,packA,D.val?,↓reduceIte,reduceCtorEq,Nat.reduceAdd,Nat.reduceSub,Nat.reduceMul,List.reduceReplicate,Nat.reduceLeDiff,Nat.reduceLT,Nat.reduceBEq,Nat.reduceEqDiff,Int.reduceNeg,Int.reduceEq,Int.reduceLE,Int.reduceLT,tfb,ctz8,x8_11,x8_11_m1,x8_13,x8_22,x8_24,x8_24_m1,x8_24_m2,x8_24_m3,x8_26,x8_30,eq30,x8_31,x8_31_m1,x8_32,x8_32_m1,x8_32_m2,x8_32_m3,eq_self]
    rintro ⟨q, R⟩ ⟨hq, hR⟩
    dsimp only at hq hR ⊢
    by_cases hqt : q < V.1.length
    · have hqt' : (q : Int) < V.1.length := by omega
      have hqr : (q : Int) < R.length := by omega
      simp (maxSteps := 4000000) +contextual (disch := first | omega | exact qdb_ok (by kernel_rfl) | exact okb_ok (by kernel_rfl)) only [bw1,bw2,bw3,bw4,bw5,bw6,bw7,bc0,bc1,bc2,bc3,bc4,bc5,bc6,bc7,setPs,AV.owns,AV.datF,AV.frz,AV.cpy,ifV,isEqB,nilV,nilX,AV.isNilS,AV.isNoRows,wk,dclo,datOf,binIs,addF,AV.isPtr,idxV,AV.isSl,AV.isSlice,AV.rows,ps,pv,extV,extS,AV.outs,AV.outF,packD,AV.dl,fieldV,fieldS,AV.cells?,AV.upr,AV.menc,AV.one,D.one,Value.oneCell',tagOf,AV.isApp,strV,strS,bolV,bolS,slcV,AV.isSlD,asrtS,AV.dcells,D.cells?,stcV,stcS,leafOk,eqDs,eqD,packA,D.val?,↓reduceIte,reduceCtorEq,Nat.reduceAdd,Nat.reduceSub,Nat.reduceMul,List.reduceReplicate,Nat.reduceLeDiff,Nat.reduceLT,Nat.reduceBEq,Nat.reduceEqDiff,Int.reduceNeg,Int.reduceEq,Int.reduceLE,Int.reduceLT,tfb,ctz8,x8_11,x8_11_m1,x8_13,x8_22,x8_24,x8_24_m1,x8_24_m2,x8_24_m3,x8_26,x8_30,eq30,x8_31,x8_31_m1,x8_32,x8_32_m1,x8_32_m2,x8_32_m3,eq_self, hqt', hqr, hR, List.length_map]
      exact ⟨by omega, ⟨q + 1, R.set q (-1)⟩, ⟨⟨by dsimp only; omega, by dsimp only; rw [List.length_set]; exact hR⟩, by dsimp only; omega⟩, by dsimp only; rw [List.map_set], rfl⟩
    have hqt' : ¬ (q : Int) < V.1.length := by omega
    obtain rfl : q = V.1.length := by omega
    simp (maxSteps := 4000000) +contextual (disch := first | omega | exact qdb_ok (by kernel_rfl) | exact okb_ok (by kernel_rfl)) only [bw1,bw2,bw3,bw4,bw5,bw6,bw7,bc0,bc1,bc2,bc3,bc4,bc5,bc6,bc7,setPs,AV.owns,AV.datF,AV.frz,AV.cpy,ifV,isEqB,nilV,nilX,AV.isNilS,AV.isNoRows,wk,dclo,datOf,binIs,addF,AV.isPtr,idxV,AV.isSl,AV.isSlice,AV.rows,ps,pv,extV,extS,AV.outs,AV.outF,packD,AV.dl,fieldV,fieldS,AV.cells?,AV.upr,AV.menc,AV.one,D.one,Value.oneCell',tagOf,AV.isApp,strV,strS,bolV,bolS,slcV,AV.isSlD,asrtS,AV.dcells,D.cells?,stcV,stcS,leafOk,eqDs,eqD,packA,D.val?,↓reduceIte,reduceCtorEq,Nat.reduceAdd,Nat.reduceSub,Nat.reduceMul,List.reduceReplicate,Nat.reduceLeDiff,Nat.reduceLT,Nat.reduceBEq,Nat.reduceEqDiff,Int.reduceNeg,Int.reduceEq,Int.reduceLE,Int.reduceLT,tfb,ctz8,x8_11,x8_11_m1,x8_13,x8_22,x8_24,x8_24_m1,x8_24_m2,x8_24_m3,x8_26,x8_30,eq30,x8_31,x8_31_m1,x8_32,x8_32_m1,x8_32_m2,x8_32_m3,eq_self, hqt', Int.lt_irrefl]
    exact ⟨k + 1, ⟨by omega, by omega⟩, rfl⟩
  have hkt' : ¬ (k : Int) < l.length := by omega
  obtain rfl : k = l.length := by omega
  simp (maxSteps := 4000000) +contextual (disch := first | omega | exact qdb_ok (by kernel_rfl) | exact okb_ok (by kernel_rfl)) only [bw1,bw2,bw3,bw4,bw5,bw6,bw7,bc0,bc1,bc2,bc3,bc4,bc5,bc6,bc7,setPs,AV.owns,AV.datF,AV.frz,AV.cpy,ifV,isEqB,nilV,nilX,AV.isNilS,AV.isNoRows,wk,dclo,datOf,binIs,addF,AV.isPtr,idxV,AV.isSl,AV.isSlice,AV.rows,ps,pv,extV,extS,AV.outs,AV.outF,packD,AV.dl,fieldV,fieldS,AV.cells?,AV.upr,AV.menc,AV.one,D.one,Value.oneCell',tagOf,AV.isApp,strV,strS,bolV,bolS,slcV,AV.isSlD,asrtS,AV.dcells,D.cells?,stcV,stcS,leafOk,eqDs,eqD,packA,D.val?,↓reduceIte,reduceCtorEq,Nat.reduceAdd,Nat.reduceSub,Nat.reduceMul,List.reduceReplicate,Nat.reduceLeDiff,Nat.reduceLT,Nat.reduceBEq,Nat.reduceEqDiff,Int.reduceNeg,Int.reduceEq,Int.reduceLE,Int.reduceLT,tfb,ctz8,x8_11,x8_11_m1,x8_13,x8_22,x8_24,x8_24_m1,x8_24_m2,x8_24_m3,x8_26,x8_30,eq30,x8_31,x8_31_m1,x8_32,x8_32_m1,x8_32_m2,x8_32_m3,eq_self, hkt', Int.lt_irrefl, hA']
  have hfl := flN_len (r := r) (by omega) hfew l.length (Nat.le_refl _)
  exact ⟨⟨by omega, h0⟩, ⟨⟨by omega, hl8⟩, hfew⟩, by omega, by omega, rfl⟩
end Go.Proofs.Ytapglfcaghlpfaa.N0
