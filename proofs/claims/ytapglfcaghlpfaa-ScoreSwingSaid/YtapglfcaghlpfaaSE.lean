/- A part of the proof that the last text ends: what functions of the program do, told by plain data. -/
import Derived.Test.YtapglfcaghlpfaaSD
set_option linter.unusedVariables false
set_option linter.unusedSimpArgs false
namespace Go.Proofs.Ytapglfcaghlpfaa
open Go Go.E Go.Maps
set_option maxRecDepth 100000
set_option maxHeartbeats 16000000
def O35 : Nat → Sch := fun id => .done
theorem ho35 : Try.f35.body.map (okO O35) = some true := by kernel_rfl
def Cf35 : Nat → List AV → (AV → List AV → Sto → Prop) → Kt → List AV → Sto → Prop := fun f args K Q e s => match f with
  | 51 => ent51 args K e s
  | _ => False
def Ct35 : CT := { f := Cf35, y := noYld, z := fun d => false }
theorem ctz35 {d : Nat} : CT.z Ct35 d = (false) := id rfl
theorem Ct35_ok : Ct35.ok Try.prog := ok_of_f (fun f args K Q e s h => by
  have h : Cf35 f args K Q e s := h
  unfold Cf35 at h; split at h
  · exact ent51_ok h
  · exact h.elim) (fun _ _ _ _ _ _ _ _ _ h => h)
theorem x35_51 {n : Int} {lo : Int} {hi : Int} {KK : AV → List AV → Sto → Prop} {QQ : Kt} {ii : At KK} {jj : At QQ} {ee : List AV} {ss : Sto} : xC Ct35 51 [.d (.i n), .d (.i lo), .d (.i hi)] KK QQ ii jj ee ss = (KK (.d (.b (inB n lo hi))) ee ss) := eq51
theorem c35 : callable Try.prog 35 = true := by kernel_rfl
theorem pf35 (r : Rul) : PF Try.prog 35 [r.d] (fun zz => zz = .ret (.b r.ok)) := by
  refine PF_nil (PF_start (O := O35) Ct35_ok hmix ho35 Try.func35 c35 rfl Try.ntmps35 Try.results35 ?_)
  simp (maxSteps := 4000000) +contextual (disch := first | omega | exact qdb_ok (by kernel_rfl) | exact okb_ok (by kernel_rfl)) only [bw1,bw2,bw3,bw4,bw5,bw6,bw7,bc0,bc1,bc2,bc3,bc4,bc5,bc6,bc7,setPs,AV.owns,AV.datF,AV.frz,AV.cpy,ifV,isEqB,nilV,nilX,AV.isNilS,AV.isNoRows,wk,dclo,datOf,binIs,addF,AV.isPtr,idxV,AV.isSl,AV.isSlice,AV.rows,ps,pv,extV,extS,AV.outs,AV.outF,packD,AV.dl,fieldV,fieldS,AV.cells?,AV.upr,AV.menc,AV.one,D.one,Value.oneCell',tagOf,AV.isApp,strV,strS,bolV,bolS,slcV,AV.isSlD,asrtS,AV.dcells,D.cells?,stcV,stcS,leafOk,eqDs,eqD,packA,D.val?,↓reduceIte,reduceCtorEq,Nat.reduceAdd,Nat.reduceSub,Nat.reduceMul,List.reduceReplicate,Nat.reduceLeDiff,Nat.reduceLT,Nat.reduceBEq,Nat.reduceEqDiff,Int.reduceNeg,Int.reduceEq,Int.reduceLE,Int.reduceLT,tfb,ctz35,x35_51]
  refine loop_s (O := O35) (tb := 0) Ct35_ok hmix (by kernel_rfl) (σ := Nat) (fun i => [(3, .i i)]) (fun i => (i ≤ r.bases.length ∧ i ≤ 65) ∧ ∀ j, j < i → inB (r.bases.getD j default) 0 2000 = true) (fun i => r.bases.length - i) (fun i => i + 1) 0 ⟨by omega, fun j h => by omega⟩ ?_ ?_
  · simp (maxSteps := 4000000) +contextual (disch := first | omega | exact qdb_ok (by kernel_rfl) | exact okb_ok (by kernel_rfl)) only [bw1,bw2,bw3,bw4,bw5,bw6,bw7,bc0,bc1,bc2,bc3,bc4,bc5,bc6,bc7,setPs,AV.owns,AV.datF,AV.frz,AV.cpy,ifV,isEqB,nilV,nilX,AV.isNilS,AV.isNoRows,wk,dclo,datOf,binIs,addF,AV.isPtr,idxV,AV.isSl,AV.isSlice,AV.rows,ps,pv,extV,extS,AV.outs,AV.outF,packD,AV.dl,fieldV,fieldS,AV.cells?,AV.upr,AV.menc,AV.one,D.one,Value.oneCell',tagOf,AV.isApp,strV,strS,bolV,bolS,slcV,AV.isSlD,asrtS,AV.dcells,D.cells?,stcV,stcS,leafOk,eqDs,eqD,packA,D.val?,↓reduceIte,reduceCtorEq,Nat.reduceAdd,Nat.reduceSub,Nat.reduceMul,List.reduceReplicate,Nat.reduceLeDiff,Nat.reduceLT,Nat.reduceBEq,Nat.reduceEqDiff,Int.reduceNeg,Int.reduceEq,Int.reduceLE,Int.reduceLT,tfb,ctz35,x35_51]
  rintro i ⟨⟨hi0, hi1⟩, hf⟩
  by_cases hlt : i < r.bases.length ∧ i ≤ 64
  · obtain ⟨hlt, hle⟩ := hlt
    have hlt' : (i : Int) < r.bases.length := by omega
    have hle' : (i : Int) ≤ 64 := by omega
    by_cases d : inB (r.bases.getD i default) 0 2000 = true
    · have hf' : ∀ j, j < i + 1 → inB (r.bases.getD j default) 0 2000 = true := fun j hj => by
        rcases Nat.lt_or_ge j i with h | h
        · exact hf j h
        · rw [show j = i by omega]; exact d
      simp (maxSteps := 4000000) +contextual (disch := first | omega | exact qdb_ok (by kernel_rfl) | exact okb_ok (by kernel_rfl)) only [bw1,bw2,bw3,bw4,bw5,bw6,bw7,bc0,bc1,bc2,bc3,bc4,bc5,bc6,bc7,setPs,AV.owns,AV.datF,AV.frz,AV.cpy,ifV,isEqB,nilV,nilX,AV.isNilS,AV.isNoRows,wk,dclo,datOf,binIs,addF,AV.isPtr,idxV,AV.isSl,AV.isSlice,AV.rows,ps,pv,extV,extS,AV.outs,AV.outF,packD,AV.dl,fieldV,fieldS,AV.cells?,AV.upr,AV.menc,AV.one,D.one,Value.oneCell',tagOf,AV.isApp,strV,strS,bolV,bolS,slcV,AV.isSlD,asrtS,AV.dcells,D.cells?,stcV,stcS,leafOk,eqDs,eqD,packA,D.val?,↓reduceIte,reduceCtorEq,Nat.reduceAdd,Nat.reduceSub,Nat.reduceMul,List.reduceReplicate,Nat.reduceLeDiff,Nat.reduceLT,Nat.reduceBEq,Nat.reduceEqDiff,Int.reduceNeg,Int.reduceEq,Int.reduceLE,Int.reduceLT,tfb,ctz35,x35_51,eq_self, hlt', hle', d]
      and_intros <;> first | omega | exact hf'
    · have d' := Bool.eq_false_iff.2 d
      have ha : allB r.bases 0 2000 = false := all_no hlt d'
      have hw : r.ok = false := by unfold Rul.ok; rw [ha]; simp
      rw [hw]
      simp (maxSteps := 4000000) +contextual (disch := first | omega | exact qdb_ok (by kernel_rfl) | exact okb_ok (by kernel_rfl)) only [bw1,bw2,bw3,bw4,bw5,bw6,bw7,bc0,bc1,bc2,bc3,bc4,bc5,bc6,bc7,setPs,AV.owns,AV.datF,AV.frz,AV.cpy,ifV,isEqB,nilV,nilX,AV.isNilS,AV.isNoRows,wk,dclo,datOf,binIs,addF,AV.isPtr,idxV,AV.isSl,AV.isSlice,AV.rows,ps,pv,extV,extS,AV.outs,AV.outF,packD,AV.dl,fieldV,fieldS,AV.cells?,AV.upr,AV.menc,AV.one,D.one,Value.oneCell',tagOf,AV.isApp,strV,strS,bolV,bolS,slcV,AV.isSlD,asrtS,AV.dcells,D.cells?,stcV,stcS,leafOk,eqDs,eqD,packA,D.val?,↓reduceIte,reduceCtorEq,Nat.reduceAdd,Nat.reduceSub,Nat.reduceMul,List.reduceReplicate,Nat.reduceLeDiff,Nat.reduceLT,Nat.reduceBEq,Nat.reduceEqDiff,Int.reduceNeg,Int.reduceEq,Int.reduceLE,Int.reduceLT,tfb,ctz35,x35_51,eq_self, hlt', hle', d]
      try omega
  by_cases hlt2 : i < r.bases.length
  · have hlt' : (i : Int) < r.bases.length := by omega
    have hle' : ¬ (i : Int) ≤ 64 := by omega
    have c1 : inB (r.bases.length : Int) 1 64 = false := inB_no.2 (by omega)
    have hw : r.ok = false := by unfold Rul.ok; rw [c1]; rfl
    rw [hw]
    simp (maxSteps := 4000000) +contextual (disch := first | omega | exact qdb_ok (by kernel_rfl) | exact okb_ok (by kernel_rfl)) only [bw1,bw2,bw3,bw4,bw5,bw6,bw7,bc0,bc1,bc2,bc3,bc4,bc5,bc6,bc7,setPs,AV.owns,AV.datF,AV.frz,AV.cpy,ifV,isEqB,nilV,nilX,AV.isNilS,AV.isNoRows,wk,dclo,datOf,binIs,addF,AV.isPtr,idxV,AV.isSl,AV.isSlice,AV.rows,ps,pv,extV,extS,AV.outs,AV.outF,packD,AV.dl,fieldV,fieldS,AV.cells?,AV.upr,AV.menc,AV.one,D.one,Value.oneCell',tagOf,AV.isApp,strV,strS,bolV,bolS,slcV,AV.isSlD,asrtS,AV.dcells,D.cells?,stcV,stcS,leafOk,eqDs,eqD,packA,D.val?,↓reduceIte,reduceCtorEq,Nat.reduceAdd,Nat.reduceSub,Nat.reduceMul,List.reduceReplicate,Nat.reduceLeDiff,Nat.reduceLT,Nat.reduceBEq,Nat.reduceEqDiff,Int.reduceNeg,Int.reduceEq,Int.reduceLE,Int.reduceLT,tfb,ctz35,x35_51,eq_self, hlt', hle', c1]
  have hlt' : ¬ (i : Int) < r.bases.length := by omega
  have ha : allB r.bases 0 2000 = true := all_yes fun j hj => hf j (by omega)
  unfold Rul.ok
  rw [ha]
  by_cases c1 : inB (r.bases.length : Int) 1 64 = true
  · by_cases c2 : inB r.factor 0 1000 = true
    · simp (maxSteps := 4000000) +contextual (disch := first | omega | exact qdb_ok (by kernel_rfl) | exact okb_ok (by kernel_rfl)) only [bw1,bw2,bw3,bw4,bw5,bw6,bw7,bc0,bc1,bc2,bc3,bc4,bc5,bc6,bc7,setPs,AV.owns,AV.datF,AV.frz,AV.cpy,ifV,isEqB,nilV,nilX,AV.isNilS,AV.isNoRows,wk,dclo,datOf,binIs,addF,AV.isPtr,idxV,AV.isSl,AV.isSlice,AV.rows,ps,pv,extV,extS,AV.outs,AV.outF,packD,AV.dl,fieldV,fieldS,AV.cells?,AV.upr,AV.menc,AV.one,D.one,Value.oneCell',tagOf,AV.isApp,strV,strS,bolV,bolS,slcV,AV.isSlD,asrtS,AV.dcells,D.cells?,stcV,stcS,leafOk,eqDs,eqD,packA,D.val?,↓reduceIte,reduceCtorEq,Nat.reduceAdd,Nat.reduceSub,Nat.reduceMul,List.reduceReplicate,Nat.reduceLeDiff,Nat.reduceLT,Nat.reduceBEq,Nat.reduceEqDiff,Int.reduceNeg,Int.reduceEq,Int.reduceLE,Int.reduceLT,tfb,ctz35,x35_51,eq_self, hlt', c1, c2]
    · have c2 := Bool.eq_false_iff.2 c2
      simp (maxSteps := 4000000) +contextual (disch := first | omega | exact qdb_ok (by kernel_rfl) | exact okb_ok (by kernel_rfl)) only [bw1,bw2,bw3,bw4,bw5,bw6,bw7,bc0,bc1,bc2,bc3,bc4,bc5,bc6,bc7,setPs,AV.owns,AV.datF,AV.frz,AV.cpy,ifV,isEqB,nilV,nilX,AV.isNilS,AV.isNoRows,wk,dclo,datOf,binIs,addF,AV.isPtr,idxV,AV.isSl,AV.isSlice,AV.rows,ps,pv,extV,extS,AV.outs,AV.outF,packD,AV.dl,fieldV,fieldS,AV.cells?,AV.upr,AV.menc,AV.one,D.one,Value.oneCell',tagOf,AV.isApp,strV,strS,bolV,bolS,slcV,AV.isSlD,asrtS,AV.dcells,D.cells?,stcV,stcS,leafOk,eqDs,eqD,packA,D.val?,↓reduceIte,reduceCtorEq,Nat.reduceAdd,Nat.reduceSub,Nat.reduceMul,List.reduceReplicate,Nat.reduceLeDiff,Nat.reduceLT,Nat.reduceBEq,Nat.reduceEqDiff,Int.reduceNeg,Int.reduceEq,Int.reduceLE,Int.reduceLT,tfb,ctz35,x35_51,eq_self, hlt', c1, c2]
      try rfl
  · have c1 := Bool.eq_false_iff.2 c1
    simp (maxSteps := 4000000) +contextual (disch := first | omega | exact qdb_ok (by kernel_rfl) | exact okb_ok (by kernel_rfl)) only [bw1,bw2,bw3,bw4,bw5,bw6,bw7,bc0,bc1,bc2,bc3,bc4,bc5,bc6,bc7,setPs,AV.owns,AV.datF,AV.frz,AV.cpy,ifV,isEqB,nilV,nilX,AV.isNilS,AV.isNoRows,wk,dclo,datOf,binIs,addF,AV.isPtr,idxV,AV.isSl,AV.isSlice,AV.rows,ps,pv,extV,extS,AV.outs,AV.outF,packD,AV.dl,fieldV,fieldS,AV.cells?,AV.upr,AV.menc,AV.one,D.one,Value.oneCell',tagOf,AV.isApp,strV,strS,bolV,bolS,slcV,AV.isSlD,asrtS,AV.dcells,D.cells?,stcV,stcS,leafOk,eqDs,eqD,packA,D.val?,↓reduceIte,reduceCtorEq,Nat.reduceAdd,Nat.reduceSub,Nat.reduceMul,List.reduceReplicate,Nat.reduceLeDiff,Nat.reduceLT,Nat.reduceBEq,Nat.reduceEqDiff,Int.reduceNeg,Int.reduceEq,Int.reduceLE,Int.reduceLT,tfb,ctz35,x35_51,eq_self, hlt', c1]
    try rfl
def conOk (r : Rul) (l : List Ska) : Bool := r.ok && (!(jud l).2 || inB (jud l).1 1 9) && l.all fun s => skaOk r s (jud l).1
theorem judN_b {l : List Ska} : ∀ k i, 0 ≤ (judN l k i).1 ∧ ((judN l k i).2 = false → (judN l k i).1 = 0)
  | 0, _ => by unfold judN; simp
  | k + 1, i => by
    unfold judN
    split
    · simp only; exact ⟨by omega, fun h => by cases h⟩
    · split
      · simp only; exact ⟨by omega, fun h => by cases h⟩
      · exact judN_b k (i + 1)
def ent35 (args : List AV) (K : AV → List AV → Sto → Prop) (e : List AV) (s : Sto) : Prop := ent (α := (Rul)) (fun aa => [aa.d]) (fun aa => True) (fun aa => .b aa.ok) args K e s
theorem ent35_ok {args : List AV} {K : AV → List AV → Sto → Prop} {Q : Kt} {e : List AV} {s : Sto} (h : ent35 args K e s) : pcall Try.prog 35 args K Q e s := ent_ok (fun aa h => pf35 aa) h
theorem eq35 {r : Rul} {KK : AV → List AV → Sto → Prop} {ee : List AV} {ss : Sto} : ent35 [.d (r.d)] KK ee ss = (KK (.d (.b r.ok)) ee ss) := by
  unfold ent35; rw [ent_iff r (by intro b h; simpa [Prod.ext_iff, and_assoc, Int.ofNat_inj, ints_inj, cals_inj, pcs_inj, skas_inj, scos_inj, ska_inj, rul_inj, sco_inj, cal_inj] using h) rfl]; simp
def O37 : Nat → Sch := fun id => .done
theorem ho37 : Try.f37.body.map (okO O37) = some true := by kernel_rfl
def Cf37 : Nat → List AV → (AV → List AV → Sto → Prop) → Kt → List AV → Sto → Prop := fun f args K Q e s => match f with
  | 43 => ent43 args K e s
  | 44 => ent44 args K e s
  | 53 => ent53 args K e s
  | 54 => ent54 args K e s
  | _ => False
def Ct37 : CT := { f := Cf37, y := noYld, z := fun d => false }
theorem ctz37 {d : Nat} : CT.z Ct37 d = (false) := id rfl
theorem Ct37_ok : Ct37.ok Try.prog := ok_of_f (fun f args K Q e s h => by
  have h : Cf37 f args K Q e s := h
  unfold Cf37 at h; split at h
  · exact ent43_ok h
  · exact ent44_ok h
  · exact ent53_ok h
  · exact ent54_ok h
  · exact h.elim) (fun _ _ _ _ _ _ _ _ _ h => h)
theorem x37_43 {l : List Ska} {KK : AV → List AV → Sto → Prop} {QQ : Kt} {ii : At KK} {jj : At QQ} {ee : List AV} {ss : Sto} : xC Ct37 43 [.d (.sl 3 (l.map Ska.c))] KK QQ ii jj ee ss = ((l.length ≤ 1000) ∧ KK (.d (.tup [.i (jud l).1, .b (jud l).2])) ee ss) := eq43
theorem x37_43_m1 {l : List Ska} {g1 el1 : Nat} {KK : AV → List AV → Sto → Prop} {QQ : Kt} {ii : At KK} {jj : At QQ} {ee : List AV} {ss : Sto} : xC Ct37 43 [.own g1 el1 3 (l.map Ska.c)] KK QQ ii jj ee ss = ((l.length ≤ 1000) ∧ (.tup [.i (jud l).1, .b (jud l).2] : D).flat = true ∧ KK (.d (.tup [.i (jud l).1, .b (jud l).2])) ee ss) := eqo43
theorem x37_44 {n : Int} {lo : Int} {hi : Int} {KK : AV → List AV → Sto → Prop} {QQ : Kt} {ii : At KK} {jj : At QQ} {ee : List AV} {ss : Sto} : xC Ct37 44 [.d (.i n), .d (.i lo), .d (.i hi)] KK QQ ii jj ee ss = (KK (.d (.b (inB n lo hi))) ee ss) := eq44
theorem x37_53 {r : Rul} {KK : AV → List AV → Sto → Prop} {QQ : Kt} {ii : At KK} {jj : At QQ} {ee : List AV} {ss : Sto} : xC Ct37 53 [.d (r.d)] KK QQ ii jj ee ss = (KK (.d (.b r.ok)) ee ss) := eq53
theorem x37_54 {r : Rul} {s : Ska} {n : Int} {KK : AV → List AV → Sto → Prop} {QQ : Kt} {ii : At KK} {jj : At QQ} {ee : List AV} {ss : Sto} : xC Ct37 54 [.d (r.d), .d (.agg s.c), .d (.i n)] KK QQ ii jj ee ss = (((n ≤ 1000 ∧ r.bases.length ≤ 1000) ∧ ∀ x ∈ s.calls, i64 x.place) ∧ KK (.d (.b (skaOk r s n))) ee ss) := eq54
theorem c37 : callable Try.prog 37 = true := by kernel_rfl
theorem pf37 (r : Rul) (l : List Ska) (h : l.length ≤ 1000 ∧ ∀ s ∈ l, ∀ x ∈ s.calls, i64 x.place) : PF Try.prog 37 [r.d, .sl 3 (l.map Ska.c)] (fun zz => zz = .ret (.b (conOk r l))) := by
  obtain ⟨h1, h2⟩ := h
  by_cases c1 : r.ok = true
  case neg =>
    have hw : conOk r l = false := by unfold conOk; rw [Bool.eq_false_iff.2 c1]; rfl
    rw [hw]
    refine PF_nil (PF_start (O := O37) Ct37_ok hmix ho37 Try.func37 c37 rfl Try.ntmps37 Try.results37 ?_)
    simp (maxSteps := 4000000) +contextual (disch := first | omega | exact qdb_ok (by kernel_rfl) | exact okb_ok (by kernel_rfl)) only [bw1,bw2,bw3,bw4,bw5,bw6,bw7,bc0,bc1,bc2,bc3,bc4,bc5,bc6,bc7,setPs,AV.owns,AV.datF,AV.frz,AV.cpy,ifV,isEqB,nilV,nilX,AV.isNilS,AV.isNoRows,wk,dclo,datOf,binIs,addF,AV.isPtr,idxV,AV.isSl,AV.isSlice,AV.rows,ps,pv,extV,extS,AV.outs,AV.outF,packD,AV.dl,fieldV,fieldS,AV.cells?,AV.upr,AV.menc,AV.one,D.one,Value.oneCell',tagOf,AV.isApp,strV,strS,bolV,bolS,slcV,AV.isSlD,asrtS,AV.dcells,D.cells?,stcV,stcS,leafOk,eqDs,eqD,packA,D.val?,↓reduceIte,reduceCtorEq,Nat.reduceAdd,Nat.reduceSub,Nat.reduceMul,List.reduceReplicate,Nat.reduceLeDiff,Nat.reduceLT,Nat.reduceBEq,Nat.reduceEqDiff,Int.reduceNeg,Int.reduceEq,Int.reduceLE,Int.reduceLT,tfb,ctz37,x37_43,x37_43_m1,x37_44,x37_53,x37_54,c1, h1]
  have hjb : 0 ≤ (jud l).1 ∧ ((jud l).2 = false → (jud l).1 = 0) := judN_b _ _
  have hw : conOk r l = ((!(jud l).2 || inB (jud l).1 1 9) && l.all fun s => skaOk r s (jud l).1) := by unfold conOk; rw [c1, Bool.true_and]
  have hbl : r.bases.length ≤ 1000 := by
    unfold Rul.ok at c1
    simp only [Bool.and_eq_true] at c1
    have := inB_iff.1 c1.1.1.1
    omega
  rw [hw]
  generalize hJ : jud l = J at hjb ⊢
  by_cases c2 : J.2 = true ∧ ¬ inB J.1 1 9 = true
  · have c3 := Bool.eq_false_iff.2 c2.2
    rw [c2.1, c3]
    refine PF_nil (PF_start (O := O37) Ct37_ok hmix ho37 Try.func37 c37 rfl Try.ntmps37 Try.results37 ?_)
    simp (maxSteps := 4000000) +contextual (disch := first | omega | exact qdb_ok (by kernel_rfl) | exact okb_ok (by kernel_rfl)) only [bw1,bw2,bw3,bw4,bw5,bw6,bw7,bc0,bc1,bc2,bc3,bc4,bc5,bc6,bc7,setPs,AV.owns,AV.datF,AV.frz,AV.cpy,ifV,isEqB,nilV,nilX,AV.isNilS,AV.isNoRows,wk,dclo,datOf,binIs,addF,AV.isPtr,idxV,AV.isSl,AV.isSlice,AV.rows,ps,pv,extV,extS,AV.outs,AV.outF,packD,AV.dl,fieldV,fieldS,AV.cells?,AV.upr,AV.menc,AV.one,D.one,Value.oneCell',tagOf,AV.isApp,strV,strS,bolV,bolS,slcV,AV.isSlD,asrtS,AV.dcells,D.cells?,stcV,stcS,leafOk,eqDs,eqD,packA,D.val?,↓reduceIte,reduceCtorEq,Nat.reduceAdd,Nat.reduceSub,Nat.reduceMul,List.reduceReplicate,Nat.reduceLeDiff,Nat.reduceLT,Nat.reduceBEq,Nat.reduceEqDiff,Int.reduceNeg,Int.reduceEq,Int.reduceLE,Int.reduceLT,tfb,ctz37,x37_43,x37_43_m1,x37_44,x37_53,x37_54,c1, h1, hJ, c2.1, c3]
    rfl
  have c4 : (!J.2 || inB J.1 1 9) = true := by
    cases hj : J.2
    · rfl
    · by_cases c5 : inB J.1 1 9 = true
      · rw [c5]; rfl
      · exact absurd ⟨hj, c5⟩ c2
  have hn : J.1 ≤ 1000 := by
    cases hj : J.2
    · have := hjb.2 hj; omega
    · rw [hj] at c4
      have := inB_iff.1 (show inB J.1 1 9 = true from c4)
      omega
  rw [c4, Bool.true_and]
  refine PF_nil (PF_start (O := O37) Ct37_ok hmix ho37 Try.func37 c37 rfl Try.ntmps37 Try.results37 ?_)
  cases hj : J.2
  simp (maxSteps := 4000000) +contextual (disch := first | omega | exact qdb_ok (by kernel_rfl) | exact okb_ok (by kernel_rfl)) only [bw1,bw2,bw3,bw4,bw5,bw6,bw7,bc0,bc1,bc2,bc3,bc4,bc5,bc6,bc7,setPs,AV.owns,AV.datF,AV.frz,AV.cpy,ifV,isEqB,nilV,nilX,AV.isNilS,AV.isNoRows,wk,dclo,datOf,binIs,addF,AV.isPtr,idxV,AV.isSl,AV.isSlice,AV.rows,ps,pv,extV,extS,AV.outs,AV.outF,packD,AV.dl,fieldV,fieldS,AV.cells?,AV.upr,AV.menc,AV.one,D.one,Value.oneCell',tagOf,AV.isApp,strV,strS,bolV,bolS,slcV,AV.isSlD,asrtS,AV.dcells,D.cells?,stcV,stcS,leafOk,eqDs,eqD,packA,D.val?,↓reduceIte,reduceCtorEq,Nat.reduceAdd,Nat.reduceSub,Nat.reduceMul,List.reduceReplicate,Nat.reduceLeDiff,Nat.reduceLT,Nat.reduceBEq,Nat.reduceEqDiff,Int.reduceNeg,Int.reduceEq,Int.reduceLE,Int.reduceLT,tfb,ctz37,x37_43,x37_43_m1,x37_44,x37_53,x37_54,c1, h1, hJ, hj]
  rotate_left
  rw [hj] at c4
  have c5 : inB J.1 1 9 = true := c4
  simp (maxSteps := 4000000) +contextual (disch := first | omega | exact qdb_ok (by kernel_rfl) | exact okb_ok (by kernel_rfl)) only [bw1,bw2,bw3,bw4,bw5,bw6,bw7,bc0,bc1,bc2,bc3,bc4,bc5,bc6,bc7,setPs,AV.owns,AV.datF,AV.frz,AV.cpy,ifV,isEqB,nilV,nilX,AV.isNilS,AV.isNoRows,wk,dclo,datOf,binIs,addF,AV.isPtr,idxV,AV.isSl,AV.isSlice,AV.rows,ps,pv,extV,extS,AV.outs,AV.outF,packD,AV.dl,fieldV,fieldS,AV.cells?,AV.upr,AV.menc,AV.one,D.one,Value.oneCell',tagOf,AV.isApp,strV,strS,bolV,bolS,slcV,AV.isSlD,asrtS,AV.dcells,D.cells?,stcV,stcS,leafOk,eqDs,eqD,packA,D.val?,↓reduceIte,reduceCtorEq,Nat.reduceAdd,Nat.reduceSub,Nat.reduceMul,List.reduceReplicate,Nat.reduceLeDiff,Nat.reduceLT,Nat.reduceBEq,Nat.reduceEqDiff,Int.reduceNeg,Int.reduceEq,Int.reduceLE,Int.reduceLT,tfb,ctz37,x37_43,x37_43_m1,x37_44,x37_53,x37_54,c1, h1, hJ, hj, c5]
  all_goals
    refine loop_s (O := O37) (tb := 0) Ct37_ok hmix (by kernel_rfl) (σ := Nat) (fun i => [(7, .b true), (9, .any), (28, .i i)]) (fun i => i ≤ l.length ∧ ∀ j, j < i → skaOk r (l.getD j default) J.1 = true) (fun i => l.length - i) (fun i => i + 1) 0 ⟨by omega, fun j h => by omega⟩ ?_ ?_
    · simp (maxSteps := 4000000) +contextual (disch := first | omega | exact qdb_ok (by kernel_rfl) | exact okb_ok (by kernel_rfl)) only [bw1,bw2,bw3,bw4,bw5,bw6,bw7,bc0,bc1,bc2,bc3,bc4,bc5,bc6,bc7,setPs,AV.owns,AV.datF,AV.frz,AV.cpy,ifV,isEqB,nilV,nilX,AV.isNilS,AV.isNoRows,wk,dclo,datOf,binIs,addF,AV.isPtr,idxV,AV.isSl,AV.isSlice,AV.rows,ps,pv,extV,extS,AV.outs,AV.outF,packD,AV.dl,fieldV,fieldS,AV.cells?,AV.upr,AV.menc,AV.one,D.one,Value.oneCell',tagOf,AV.isApp,strV,strS,bolV,bolS,slcV,AV.isSlD,asrtS,AV.dcells,D.cells?,stcV,stcS,leafOk,eqDs,eqD,packA,D.val?,↓reduceIte,reduceCtorEq,Nat.reduceAdd,Nat.reduceSub,Nat.reduceMul,List.reduceReplicate,Nat.reduceLeDiff,Nat.reduceLT,Nat.reduceBEq,Nat.reduceEqDiff,Int.reduceNeg,Int.reduceEq,Int.reduceLE,Int.reduceLT,tfb,ctz37,x37_43,x37_43_m1,x37_44,x37_53,x37_54]
      try rfl
    rintro i ⟨hi0, hf⟩
    by_cases hlt : i < l.length
    · have hlt' : (i : Int) < l.length := by omega
      have h2i : ∀ x ∈ (l.getD i default).calls, i64 x.place := h2 _ (by rw [at_lt hlt]; exact List.getElem_mem _)
      by_cases d : skaOk r (l.getD i default) J.1 = true
      · have hf' : ∀ j, j < i + 1 → skaOk r (l.getD j default) J.1 = true := fun j hj => by
          rcases Nat.lt_or_ge j i with h | h
          · exact hf j h
          · rw [show j = i by omega]; exact d
        simp (maxSteps := 4000000) +contextual (disch := first | omega | exact qdb_ok (by kernel_rfl) | exact okb_ok (by kernel_rfl)) only [bw1,bw2,bw3,bw4,bw5,bw6,bw7,bc0,bc1,bc2,bc3,bc4,bc5,bc6,bc7,setPs,AV.owns,AV.datF,AV.frz,AV.cpy,ifV,isEqB,nilV,nilX,AV.isNilS,AV.isNoRows,wk,dclo,datOf,binIs,addF,AV.isPtr,idxV,AV.isSl,AV.isSlice,AV.rows,ps,pv,extV,extS,AV.outs,AV.outF,packD,AV.dl,fieldV,fieldS,AV.cells?,AV.upr,AV.menc,AV.one,D.one,Value.oneCell',tagOf,AV.isApp,strV,strS,bolV,bolS,slcV,AV.isSlD,asrtS,AV.dcells,D.cells?,stcV,stcS,leafOk,eqDs,eqD,packA,D.val?,↓reduceIte,reduceCtorEq,Nat.reduceAdd,Nat.reduceSub,Nat.reduceMul,List.reduceReplicate,Nat.reduceLeDiff,Nat.reduceLT,Nat.reduceBEq,Nat.reduceEqDiff,Int.reduceNeg,Int.reduceEq,Int.reduceLE,Int.reduceLT,tfb,ctz37,x37_43,x37_43_m1,x37_44,x37_53,x37_54,eq_self, hlt', d]
        and_intros <;> first | omega | exact hf' | exact h2i | rfl
      · have d' := Bool.eq_false_iff.2 d
        have ha : (l.all fun s => skaOk r s J.1) = false := all_no (p := fun s => skaOk r s J.1) hlt d'
        simp (maxSteps := 4000000) +contextual (disch := first | omega | exact qdb_ok (by kernel_rfl) | exact okb_ok (by kernel_rfl)) only [bw1,bw2,bw3,bw4,bw5,bw6,bw7,bc0,bc1,bc2,bc3,bc4,bc5,bc6,bc7,setPs,AV.owns,AV.datF,AV.frz,AV.cpy,ifV,isEqB,nilV,nilX,AV.isNilS,AV.isNoRows,wk,dclo,datOf,binIs,addF,AV.isPtr,idxV,AV.isSl,AV.isSlice,AV.rows,ps,pv,extV,extS,AV.outs,AV.outF,packD,AV.dl,fieldV,fieldS,AV.cells?,AV.upr,AV.menc,AV.one,D.one,Value.oneCell',tagOf,AV.isApp,strV,strS,bolV,bolS,slcV,AV.isSlD,asrtS,AV.dcells,D.cells?,stcV,stcS,leafOk,eqDs,eqD,packA,D.val?,↓reduceIte,reduceCtorEq,Nat.reduceAdd,Nat.reduceSub,Nat.reduceMul,List.reduceReplicate,Nat.reduceLeDiff,Nat.reduceLT,Nat.reduceBEq,Nat.reduceEqDiff,Int.reduceNeg,Int.reduceEq,Int.reduceLE,Int.reduceLT,tfb,ctz37,x37_43,x37_43_m1,x37_44,x37_53,x37_54,eq_self, hlt', d', ha]
        and_intros <;> first | omega | exact h2i | rfl
    · have hlt' : ¬ (i : Int) < l.length := by omega
      have ha : (l.all fun s => skaOk r s J.1) = true := all_yes (p := fun s => skaOk r s J.1) fun j hj => hf j (by omega)
      simp (maxSteps := 4000000) +contextual (disch := first | omega | exact qdb_ok (by kernel_rfl) | exact okb_ok (by kernel_rfl)) only [bw1,bw2,bw3,bw4,bw5,bw6,bw7,bc0,bc1,bc2,bc3,bc4,bc5,bc6,bc7,setPs,AV.owns,AV.datF,AV.frz,AV.cpy,ifV,isEqB,nilV,nilX,AV.isNilS,AV.isNoRows,wk,dclo,datOf,binIs,addF,AV.isPtr,idxV,AV.isSl,AV.isSlice,AV.rows,ps,pv,extV,extS,AV.outs,AV.outF,packD,AV.dl,fieldV,fieldS,AV.cells?,AV.upr,AV.menc,AV.one,D.one,Value.oneCell',tagOf,AV.isApp,strV,strS,bolV,bolS,slcV,AV.isSlD,asrtS,AV.dcells,D.cells?,stcV,stcS,leafOk,eqDs,eqD,packA,D.val?,↓reduceIte,reduceCtorEq,Nat.reduceAdd,Nat.reduceSub,Nat.reduceMul,List.reduceReplicate,Nat.reduceLeDiff,Nat.reduceLT,Nat.reduceBEq,Nat.reduceEqDiff,Int.reduceNeg,Int.reduceEq,Int.reduceLE,Int.reduceLT,tfb,ctz37,x37_43,x37_43_m1,x37_44,x37_53,x37_54,eq_self, hlt', ha]
def ent37 (args : List AV) (K : AV → List AV → Sto → Prop) (e : List AV) (s : Sto) : Prop := ent (α := (Rul) × (List Ska)) (fun aa => [aa.1.d, .sl 3 (aa.2.map Ska.c)]) (fun aa => aa.2.length ≤ 1000 ∧ ∀ s ∈ aa.2, ∀ x ∈ s.calls, i64 x.place) (fun aa => .b (conOk aa.1 aa.2)) args K e s
theorem ent37_ok {args : List AV} {K : AV → List AV → Sto → Prop} {Q : Kt} {e : List AV} {s : Sto} (h : ent37 args K e s) : pcall Try.prog 37 args K Q e s := ent_ok (fun aa h => pf37 aa.1 aa.2 h) h
theorem eq37 {r : Rul} {l : List Ska} {KK : AV → List AV → Sto → Prop} {ee : List AV} {ss : Sto} : ent37 [.d (r.d), .d (.sl 3 (l.map Ska.c))] KK ee ss = ((l.length ≤ 1000 ∧ ∀ s ∈ l, ∀ x ∈ s.calls, i64 x.place) ∧ KK (.d (.b (conOk r l))) ee ss) := by
  unfold ent37; rw [ent_iff (r, l) (by intro b h; simpa [Prod.ext_iff, and_assoc, Int.ofNat_inj, ints_inj, cals_inj, pcs_inj, skas_inj, scos_inj, ska_inj, rul_inj, sco_inj, cal_inj] using h) rfl]; simp
theorem eqo37 {r : Rul} {l : List Ska} {g1 el1 : Nat} {KK : AV → List AV → Sto → Prop} {ee : List AV} {ss : Sto} : ent37 [.d (r.d), .own g1 el1 3 (l.map Ska.c)] KK ee ss = ((l.length ≤ 1000 ∧ ∀ s ∈ l, ∀ x ∈ s.calls, i64 x.place) ∧ (.b (conOk r l) : D).flat = true ∧ KK (.d (.b (conOk r l))) ee ss) := by
  unfold ent37; rw [ent_iff (r, l) (by intro b h; simpa [Prod.ext_iff, and_assoc, Int.ofNat_inj, ints_inj, cals_inj, pcs_inj, skas_inj, scos_inj, ska_inj, rul_inj, sco_inj, cal_inj] using h) rfl]; simp
end Go.Proofs.Ytapglfcaghlpfaa
