/- A part of the proof that the last text ends: what functions of the program do, told by plain data. -/
import Derived.Test.YtohkngiflfkjjaaLF
import Derived.Test.YtohkngiflfkjjaaLE
set_option linter.unusedVariables false
set_option linter.unusedSimpArgs false
namespace Go.Proofs.Ytohkngiflfkjjaa
open Go Go.E Go.Maps
set_option maxRecDepth 100000
set_option maxHeartbeats 100000000
/-! ### TopSheets -/
theorem eqa16_0 {l : List Ev} {x : Ev} {g1 el1 g2 el2 : Nat} {KK : AV → List AV → Sto → Prop} {ee : List AV} {ss : Sto} : ent16 [.own g1 el1 5 (l.map Ev.c), .agg [.d (.i x.day), .d (.i x.kind), .d (.i x.person), .d (.i x.n), .own g2 el2 1 (x.sheet.map ic)]] KK ee ss = ((ShsOk l ∧ l.length ≤ 1000 ∧ x.sheet.length ≤ 100) ∧ (.b (decide ((runR (l ++ [x])).2.2 = 0)) : D).flat = true ∧ KK (.d (.b (decide ((runR (l ++ [x])).2.2 = 0)))) ee ss) := by
  unfold ent16; rw [ent_iff (l, x) (by intro b h; simpa [Prod.ext_iff, and_assoc, Int.ofNat_inj, ints_inj, evs_inj, mems_inj, ev_inj, mem_inj, st_inj, Int.ofNat_inj, ints_inj, evs_inj, mems_inj, ev_inj, mem_inj, st_inj, gams_inj, fars_inj, gam_inj, lea_inj, Int.ofNat_inj, ints_inj, evs_inj, mems_inj, ev_inj, mem_inj, st_inj, gams_inj, fars_inj, gam_inj, lea_inj] using h) rfl]; simp
theorem play_err' {l : List Ev} (h : (runR l).2.2 ≠ 0) : playR l = ([], ((runR l).2.1 : Int), (runR l).2.2) := by unfold playR; rw [if_neg h]
theorem play_ok' {l : List Ev} (h : (runR l).2.2 = 0) : playR l = ((runR l).1.mem, ((runR l).2.1 : Int), 0) := by unfold playR; rw [if_pos h]
def izF (b : Bool) (A : List Int) (p : Int) (z : Nat) : Bool := b || (A.take z).any (fun a => a == p)
theorem izF_zero {b : Bool} {A : List Int} {p : Int} : izF b A p 0 = b := by unfold izF; simp
theorem izF_succ {b : Bool} {A : List Int} {p : Int} {z : Nat} (hz : z < A.length) : izF b A p (z + 1) = (izF b A p z || (A.getD z default == p)) := by
  unfold izF; rw [take_succ hz, List.any_append, List.any_cons, List.any_nil, Bool.or_false, Bool.or_assoc]
theorem izF_all {b : Bool} {A : List Int} {p : Int} (h1 : izF b A p A.length = false) : p ∉ A := fun h2 => by
  unfold izF at h1
  rw [List.take_length, Bool.or_eq_false_iff, List.any_eq_false] at h1
  exact h1.2 _ h2 (by simp)
def O3 : Nat → Sch := fun id => .done
theorem ho3 : Try.f3.body.map (okO O3) = some true := by kernel_rfl
def Cf3 : Nat → List AV → (AV → List AV → Sto → Prop) → Kt → List AV → Sto → Prop := fun f args K Q e s => match f with
  | 11 => ent11 args K e s
  | 12 => ent12 args K e s
  | 13 => ent13 args K e s
  | 14 => ent14 args K e s
  | 15 => ent15 args K e s
  | 16 => ent16 args K e s
  | 17 => ent17 args K e s
  | _ => False
def Ct3 : CT := { f := Cf3, y := noYld, z := fun d => false }
theorem ctz3 {d : Nat} : CT.z Ct3 d = (false) := id rfl
theorem Ct3_ok : Ct3.ok Try.prog := ok_of_f (fun f args K Q e s h => by
  have h : Cf3 f args K Q e s := h
  unfold Cf3 at h; split at h
  · exact ent11_ok h
  · exact ent12_ok h
  · exact ent13_ok h
  · exact ent14_ok h
  · exact ent15_ok h
  · exact ent16_ok h
  · exact ent17_ok h
  · exact h.elim) (fun _ _ _ _ _ _ _ _ _ h => h)
theorem x3_11  {KK : AV → List AV → Sto → Prop} {QQ : Kt} {ii : At KK} {jj : At QQ} {ee : List AV} {ss : Sto} : xC Ct3 11 [] KK QQ ii jj ee ss = (KK (.d (.b true)) ee ss) := eq11
theorem x3_12 {l : List Ev} {KK : AV → List AV → Sto → Prop} {QQ : Kt} {ii : At KK} {jj : At QQ} {ee : List AV} {ss : Sto} : xC Ct3 12 [.d (.sl 5 (l.map Ev.c))] KK QQ ii jj ee ss = ((ShsOk l) ∧ KK (.d (.tup [.sl 5 ((playR l).1.map Mem.c), .i (playR l).2.1, .i (playR l).2.2])) ee ss) := eq12
theorem x3_12_m1 {l : List Ev} {g1 el1 : Nat} {KK : AV → List AV → Sto → Prop} {QQ : Kt} {ii : At KK} {jj : At QQ} {ee : List AV} {ss : Sto} : xC Ct3 12 [.own g1 el1 5 (l.map Ev.c)] KK QQ ii jj ee ss = ((ShsOk l) ∧ KK (.d (.tup [.sl 5 ((playR l).1.map Mem.c), .i (playR l).2.1, .i (playR l).2.2])) ee ss) := eqo12
theorem x3_13 {l : Lea} {KK : AV → List AV → Sto → Prop} {QQ : Kt} {ii : At KK} {jj : At QQ} {ee : List AV} {ss : Sto} : xC Ct3 13 [.d (.agg l.c)] KK QQ ii jj ee ss = ((l.far.length ≤ 1000) ∧ KK (.d (.tup [.i (lgR l).1, .i (lgR l).2])) ee ss) := eq13
theorem x3_14 {l : Lea} {KK : AV → List AV → Sto → Prop} {QQ : Kt} {ii : At KK} {jj : At QQ} {ee : List AV} {ss : Sto} : xC Ct3 14 [.d (.agg l.c)] KK QQ ii jj ee ss = ((l.far.length ≤ 1000) ∧ KK (.d (.b (leaOk l))) ee ss) := eq14
theorem x3_15 {l : List Ev} {c : Int} {d : Int} {KK : AV → List AV → Sto → Prop} {QQ : Kt} {ii : At KK} {jj : At QQ} {ee : List AV} {ss : Sto} : xC Ct3 15 [.d (.sl 5 (l.map Ev.c)), .d (.i c), .d (.i d)] KK QQ ii jj ee ss = ((ShsOk l) ∧ KK (.d (.tup [.sl 1 ((ableR l c d).1.map ic), .i (ableR l c d).2])) ee ss) := eq15
theorem x3_15_m1 {l : List Ev} {c : Int} {d : Int} {g1 el1 : Nat} {KK : AV → List AV → Sto → Prop} {QQ : Kt} {ii : At KK} {jj : At QQ} {ee : List AV} {ss : Sto} : xC Ct3 15 [.own g1 el1 5 (l.map Ev.c), .d (.i c), .d (.i d)] KK QQ ii jj ee ss = ((ShsOk l) ∧ KK (.d (.tup [.sl 1 ((ableR l c d).1.map ic), .i (ableR l c d).2])) ee ss) := eqo15
theorem x3_16 {l : List Ev} {x : Ev} {KK : AV → List AV → Sto → Prop} {QQ : Kt} {ii : At KK} {jj : At QQ} {ee : List AV} {ss : Sto} : xC Ct3 16 [.d (.sl 5 (l.map Ev.c)), .d (.agg x.c)] KK QQ ii jj ee ss = ((ShsOk l ∧ l.length ≤ 1000 ∧ x.sheet.length ≤ 100) ∧ KK (.d (.b (decide ((runR (l ++ [x])).2.2 = 0)))) ee ss) := eq16
theorem x3_16_m1 {l : List Ev} {x : Ev} {g1 el1 : Nat} {KK : AV → List AV → Sto → Prop} {QQ : Kt} {ii : At KK} {jj : At QQ} {ee : List AV} {ss : Sto} : xC Ct3 16 [.own g1 el1 5 (l.map Ev.c), .d (.agg x.c)] KK QQ ii jj ee ss = ((ShsOk l ∧ l.length ≤ 1000 ∧ x.sheet.length ≤ 100) ∧ (.b (decide ((runR (l ++ [x])).2.2 = 0)) : D).flat = true ∧ KK (.d (.b (decide ((runR (l ++ [x])).2.2 = 0)))) ee ss) := eqo16
theorem x3_17 {l : List Ev} {p : Int} {KK : AV → List AV → Sto → Prop} {QQ : Kt} {ii : At KK} {jj : At QQ} {ee : List AV} {ss : Sto} : xC Ct3 17 [.d (.sl 5 (l.map Ev.c)), .d (.i p)] KK QQ ii jj ee ss = ((ShsOk l ∧ i64 p) ∧ KK (.d (.tup [.i (backR l p).1.1, .i (backR l p).1.2, .i (backR l p).2])) ee ss) := eq17
theorem x3_17_m1 {l : List Ev} {p : Int} {g1 el1 : Nat} {KK : AV → List AV → Sto → Prop} {QQ : Kt} {ii : At KK} {jj : At QQ} {ee : List AV} {ss : Sto} : xC Ct3 17 [.own g1 el1 5 (l.map Ev.c), .d (.i p)] KK QQ ii jj ee ss = ((ShsOk l ∧ i64 p) ∧ (.tup [.i (backR l p).1.1, .i (backR l p).1.2, .i (backR l p).2] : D).flat = true ∧ KK (.d (.tup [.i (backR l p).1.1, .i (backR l p).1.2, .i (backR l p).2])) ee ss) := eqo17
theorem x3_13a0 {l : Lea} {g1 el1 g2 el2 : Nat} {KK : AV → List AV → Sto → Prop} {QQ : Kt} {ii : At KK} {jj : At QQ} {ee : List AV} {ss : Sto} : xC Ct3 13 [.agg [.own g1 el1 1 (l.far.map pc), .own g2 el2 6 (l.games.map Gam.c)]] KK QQ ii jj ee ss = ((l.far.length ≤ 1000) ∧ (.tup [.i (lgR l).1, .i (lgR l).2] : D).flat = true ∧ KK (.d (.tup [.i (lgR l).1, .i (lgR l).2])) ee ss) := eqa13_0
theorem x3_16a0 {l : List Ev} {x : Ev} {g1 el1 g2 el2 : Nat} {KK : AV → List AV → Sto → Prop} {QQ : Kt} {ii : At KK} {jj : At QQ} {ee : List AV} {ss : Sto} : xC Ct3 16 [.own g1 el1 5 (l.map Ev.c), .agg [.d (.i x.day), .d (.i x.kind), .d (.i x.person), .d (.i x.n), .own g2 el2 1 (x.sheet.map ic)]] KK QQ ii jj ee ss = ((ShsOk l ∧ l.length ≤ 1000 ∧ x.sheet.length ≤ 100) ∧ (.b (decide ((runR (l ++ [x])).2.2 = 0)) : D).flat = true ∧ KK (.d (.b (decide ((runR (l ++ [x])).2.2 = 0)))) ee ss) := eqa16_0
theorem c3 : callable Try.prog 3 = true := by kernel_rfl
theorem pf3 (l : Lea) (r : List Ev) : PF Try.prog 3 [.agg l.c, .sl 5 (r.map Ev.c)] (fun zz => zz = .ret (.b true)) := by
  by_cases a1 : (60 : Int) < r.length
  · refine PF_nil (PF_start (O := O3) Ct3_ok hmix ho3 Try.func3 c3 rfl Try.ntmps3 Try.results3 ?_)
    simp (maxSteps := 4000000) +contextual (disch := first | omega | exact qdb_ok (by kernel_rfl) | exact okb_ok (by kernel_rfl)) only [bw1,bw2,bw3,bw4,bw5,bw6,bw7,bc0,bc1,bc2,bc3,bc4,bc5,bc6,bc7,bb0,setPs,AV.owns,AV.datF,AV.frz,AV.cpy,ifV,isEqB,nilV,nilX,AV.isNilS,AV.isNoRows,wk,dclo,datOf,binIs,addF,AV.isPtr,idxV,AV.isSl,AV.isSlice,AV.rows,ps,pv,extV,extS,AV.outs,AV.outF,packD,AV.dl,fieldV,fieldS,AV.cells?,AV.upr,AV.menc,AV.one,D.one,Value.oneCell',tagOf,AV.isApp,strV,strS,bolV,bolS,slcV,AV.isSlD,asrtS,AV.dcells,D.cells?,stcV,stcS,leafOk,eqDs,eqD,packA,D.val?,↓reduceIte,reduceCtorEq,Nat.reduceAdd,Nat.reduceSub,Nat.reduceMul,List.reduceReplicate,Nat.reduceLeDiff,Nat.reduceLT,Nat.reduceBEq,Nat.reduceEqDiff,Int.reduceNeg,Int.reduceEq,Int.reduceLE,Int.reduceLT,tfb,ctz3,x3_11,x3_12,x3_12_m1,x3_13,x3_13a0,x3_14,x3_15,x3_15_m1,x3_16,x3_16_m1,x3_16a0,x3_17,x3_17_m1,a1]
  by_cases a2 : (9 : Int) < l.far.length
  · refine PF_nil (PF_start (O := O3) Ct3_ok hmix ho3 Try.func3 c3 rfl Try.ntmps3 Try.results3 ?_)
    simp (maxSteps := 4000000) +contextual (disch := first | omega | exact qdb_ok (by kernel_rfl) | exact okb_ok (by kernel_rfl)) only [bw1,bw2,bw3,bw4,bw5,bw6,bw7,bc0,bc1,bc2,bc3,bc4,bc5,bc6,bc7,bb0,setPs,AV.owns,AV.datF,AV.frz,AV.cpy,ifV,isEqB,nilV,nilX,AV.isNilS,AV.isNoRows,wk,dclo,datOf,binIs,addF,AV.isPtr,idxV,AV.isSl,AV.isSlice,AV.rows,ps,pv,extV,extS,AV.outs,AV.outF,packD,AV.dl,fieldV,fieldS,AV.cells?,AV.upr,AV.menc,AV.one,D.one,Value.oneCell',tagOf,AV.isApp,strV,strS,bolV,bolS,slcV,AV.isSlD,asrtS,AV.dcells,D.cells?,stcV,stcS,leafOk,eqDs,eqD,packA,D.val?,↓reduceIte,reduceCtorEq,Nat.reduceAdd,Nat.reduceSub,Nat.reduceMul,List.reduceReplicate,Nat.reduceLeDiff,Nat.reduceLT,Nat.reduceBEq,Nat.reduceEqDiff,Int.reduceNeg,Int.reduceEq,Int.reduceLE,Int.reduceLT,tfb,ctz3,x3_11,x3_12,x3_12_m1,x3_13,x3_13a0,x3_14,x3_15,x3_15_m1,x3_16,x3_16_m1,x3_16a0,x3_17,x3_17_m1,a1, a2]
  by_cases a3 : (40 : Int) < l.games.length
  · refine PF_nil (PF_start (O := O3) Ct3_ok hmix ho3 Try.func3 c3 rfl Try.ntmps3 Try.results3 ?_)
    simp (maxSteps := 4000000) +contextual (disch := first | omega | exact qdb_ok (by kernel_rfl) | exact okb_ok (by kernel_rfl)) only [bw1,bw2,bw3,bw4,bw5,bw6,bw7,bc0,bc1,bc2,bc3,bc4,bc5,bc6,bc7,bb0,setPs,AV.owns,AV.datF,AV.frz,AV.cpy,ifV,isEqB,nilV,nilX,AV.isNilS,AV.isNoRows,wk,dclo,datOf,binIs,addF,AV.isPtr,idxV,AV.isSl,AV.isSlice,AV.rows,ps,pv,extV,extS,AV.outs,AV.outF,packD,AV.dl,fieldV,fieldS,AV.cells?,AV.upr,AV.menc,AV.one,D.one,Value.oneCell',tagOf,AV.isApp,strV,strS,bolV,bolS,slcV,AV.isSlD,asrtS,AV.dcells,D.cells?,stcV,stcS,leafOk,eqDs,eqD,packA,D.val?,↓reduceIte,reduceCtorEq,Nat.reduceAdd,Nat.reduceSub,Nat.reduceMul,List.reduceReplicate,Nat.reduceLeDiff,Nat.reduceLT,Nat.reduceBEq,Nat.reduceEqDiff,Int.reduceNeg,Int.reduceEq,Int.reduceLE,Int.reduceLT,tfb,ctz3,x3_11,x3_12,x3_12_m1,x3_13,x3_13a0,x3_14,x3_15,x3_15_m1,x3_16,x3_16_m1,x3_16a0,x3_17,x3_17_m1,a1, a2, a3]
  have hr60 : r.length ≤ 60 := by omega
  have hfar : l.far.length ≤ 1000 := by omega
  by_cases hse : ∃ j, j < r.length ∧ 24 < ((r.getD j default).sheet.length : Int) ∧ ∀ q, q < j → ¬ 24 < ((r.getD q default).sheet.length : Int)
  case pos =>
    obtain ⟨j0, hj1, hj2, hj3⟩ := hse
    refine PF_nil (PF_start (O := O3) Ct3_ok hmix ho3 Try.func3 c3 rfl Try.ntmps3 Try.results3 ?_)
    simp (maxSteps := 4000000) +contextual (disch := first | omega | exact qdb_ok (by kernel_rfl) | exact okb_ok (by kernel_rfl)) only [bw1,bw2,bw3,bw4,bw5,bw6,bw7,bc0,bc1,bc2,bc3,bc4,bc5,bc6,bc7,bb0,setPs,AV.owns,AV.datF,AV.frz,AV.cpy,ifV,isEqB,nilV,nilX,AV.isNilS,AV.isNoRows,wk,dclo,datOf,binIs,addF,AV.isPtr,idxV,AV.isSl,AV.isSlice,AV.rows,ps,pv,extV,extS,AV.outs,AV.outF,packD,AV.dl,fieldV,fieldS,AV.cells?,AV.upr,AV.menc,AV.one,D.one,Value.oneCell',tagOf,AV.isApp,strV,strS,bolV,bolS,slcV,AV.isSlD,asrtS,AV.dcells,D.cells?,stcV,stcS,leafOk,eqDs,eqD,packA,D.val?,↓reduceIte,reduceCtorEq,Nat.reduceAdd,Nat.reduceSub,Nat.reduceMul,List.reduceReplicate,Nat.reduceLeDiff,Nat.reduceLT,Nat.reduceBEq,Nat.reduceEqDiff,Int.reduceNeg,Int.reduceEq,Int.reduceLE,Int.reduceLT,tfb,ctz3,x3_11,x3_12,x3_12_m1,x3_13,x3_13a0,x3_14,x3_15,x3_15_m1,x3_16,x3_16_m1,x3_16a0,x3_17,x3_17_m1,a1, a2, a3]
    refine loop_s (O := O3) (tb := 0) Ct3_ok hmix (by kernel_rfl) (σ := Nat) (fun i => [(5, .i i)]) (fun i => i ≤ j0) (fun i => j0 - i) (fun i => i + 1) 0 (Nat.zero_le _) ?_ ?_
    · simp (maxSteps := 4000000) +contextual (disch := first | omega | exact qdb_ok (by kernel_rfl) | exact okb_ok (by kernel_rfl)) only [bw1,bw2,bw3,bw4,bw5,bw6,bw7,bc0,bc1,bc2,bc3,bc4,bc5,bc6,bc7,bb0,setPs,AV.owns,AV.datF,AV.frz,AV.cpy,ifV,isEqB,nilV,nilX,AV.isNilS,AV.isNoRows,wk,dclo,datOf,binIs,addF,AV.isPtr,idxV,AV.isSl,AV.isSlice,AV.rows,ps,pv,extV,extS,AV.outs,AV.outF,packD,AV.dl,fieldV,fieldS,AV.cells?,AV.upr,AV.menc,AV.one,D.one,Value.oneCell',tagOf,AV.isApp,strV,strS,bolV,bolS,slcV,AV.isSlD,asrtS,AV.dcells,D.cells?,stcV,stcS,leafOk,eqDs,eqD,packA,D.val?,↓reduceIte,reduceCtorEq,Nat.reduceAdd,Nat.reduceSub,Nat.reduceMul,List.reduceReplicate,Nat.reduceLeDiff,Nat.reduceLT,Nat.reduceBEq,Nat.reduceEqDiff,Int.reduceNeg,Int.reduceEq,Int.reduceLE,Int.reduceLT,tfb,ctz3,x3_11,x3_12,x3_12_m1,x3_13,x3_13a0,x3_14,x3_15,x3_15_m1,x3_16,x3_16_m1,x3_16a0,x3_17,x3_17_m1]
      try rfl
    intro i hi
    have hlt' : (i : Int) < r.length := by omega
    by_cases e : i = j0
    · subst e
      simp (maxSteps := 4000000) +contextual (disch := first | omega | exact qdb_ok (by kernel_rfl) | exact okb_ok (by kernel_rfl)) only [bw1,bw2,bw3,bw4,bw5,bw6,bw7,bc0,bc1,bc2,bc3,bc4,bc5,bc6,bc7,bb0,setPs,AV.owns,AV.datF,AV.frz,AV.cpy,ifV,isEqB,nilV,nilX,AV.isNilS,AV.isNoRows,wk,dclo,datOf,binIs,addF,AV.isPtr,idxV,AV.isSl,AV.isSlice,AV.rows,ps,pv,extV,extS,AV.outs,AV.outF,packD,AV.dl,fieldV,fieldS,AV.cells?,AV.upr,AV.menc,AV.one,D.one,Value.oneCell',tagOf,AV.isApp,strV,strS,bolV,bolS,slcV,AV.isSlD,asrtS,AV.dcells,D.cells?,stcV,stcS,leafOk,eqDs,eqD,packA,D.val?,↓reduceIte,reduceCtorEq,Nat.reduceAdd,Nat.reduceSub,Nat.reduceMul,List.reduceReplicate,Nat.reduceLeDiff,Nat.reduceLT,Nat.reduceBEq,Nat.reduceEqDiff,Int.reduceNeg,Int.reduceEq,Int.reduceLE,Int.reduceLT,tfb,ctz3,x3_11,x3_12,x3_12_m1,x3_13,x3_13a0,x3_14,x3_15,x3_15_m1,x3_16,x3_16_m1,x3_16a0,x3_17,x3_17_m1,eq_self, hlt', hj2]
      try (and_intros <;> first | omega | rfl | trivial)
    · have hn := hj3 i (by omega)
      simp (maxSteps := 4000000) +contextual (disch := first | omega | exact qdb_ok (by kernel_rfl) | exact okb_ok (by kernel_rfl)) only [bw1,bw2,bw3,bw4,bw5,bw6,bw7,bc0,bc1,bc2,bc3,bc4,bc5,bc6,bc7,bb0,setPs,AV.owns,AV.datF,AV.frz,AV.cpy,ifV,isEqB,nilV,nilX,AV.isNilS,AV.isNoRows,wk,dclo,datOf,binIs,addF,AV.isPtr,idxV,AV.isSl,AV.isSlice,AV.rows,ps,pv,extV,extS,AV.outs,AV.outF,packD,AV.dl,fieldV,fieldS,AV.cells?,AV.upr,AV.menc,AV.one,D.one,Value.oneCell',tagOf,AV.isApp,strV,strS,bolV,bolS,slcV,AV.isSlD,asrtS,AV.dcells,D.cells?,stcV,stcS,leafOk,eqDs,eqD,packA,D.val?,↓reduceIte,reduceCtorEq,Nat.reduceAdd,Nat.reduceSub,Nat.reduceMul,List.reduceReplicate,Nat.reduceLeDiff,Nat.reduceLT,Nat.reduceBEq,Nat.reduceEqDiff,Int.reduceNeg,Int.reduceEq,Int.reduceLE,Int.reduceLT,tfb,ctz3,x3_11,x3_12,x3_12_m1,x3_13,x3_13a0,x3_14,x3_15,x3_15_m1,x3_16,x3_16_m1,x3_16a0,x3_17,x3_17_m1,eq_self, hlt', hn]
      and_intros <;> first | omega | rfl | trivial
  have hsm : ∀ n, n ≤ r.length → ∀ j, j < n → ¬ 24 < ((r.getD j default).sheet.length : Int) := fun n => by
    induction n with
    | zero => intro _ j hj; omega
    | succ n ih =>
      intro hn j hj
      rcases Nat.lt_succ_iff_lt_or_eq.1 hj with h' | h'
      · exact ih (by omega) j h'
      · subst h'
        intro hc
        exact hse ⟨j, by omega, hc, ih (by omega)⟩
  have hsh : ∀ x ∈ r, x.sheet.length ≤ 24 := fun x hx => by
    obtain ⟨j, hj, rfl⟩ := List.getElem_of_mem hx
    have := hsm r.length (Nat.le_refl _) j hj
    rw [at_lt hj] at this
    omega
  have hl : ShsOk r := ⟨by omega, fun x hx => by have := hsh x hx; omega⟩
  have hloop : ∀ i, i < r.length → ¬ 24 < ((r.getD i default).sheet.length : Int) := hsm r.length (Nat.le_refl _)
  by_cases he : (runR r).2.2 = 0
  case neg =>
    have hp := play_err' he
    have heb : ((runR r).2.2 != 0) = true := by simpa using he
    refine PF_nil (PF_start (O := O3) Ct3_ok hmix ho3 Try.func3 c3 rfl Try.ntmps3 Try.results3 ?_)
    simp (maxSteps := 4000000) +contextual (disch := first | omega | exact qdb_ok (by kernel_rfl) | exact okb_ok (by kernel_rfl)) only [bw1,bw2,bw3,bw4,bw5,bw6,bw7,bc0,bc1,bc2,bc3,bc4,bc5,bc6,bc7,bb0,setPs,AV.owns,AV.datF,AV.frz,AV.cpy,ifV,isEqB,nilV,nilX,AV.isNilS,AV.isNoRows,wk,dclo,datOf,binIs,addF,AV.isPtr,idxV,AV.isSl,AV.isSlice,AV.rows,ps,pv,extV,extS,AV.outs,AV.outF,packD,AV.dl,fieldV,fieldS,AV.cells?,AV.upr,AV.menc,AV.one,D.one,Value.oneCell',tagOf,AV.isApp,strV,strS,bolV,bolS,slcV,AV.isSlD,asrtS,AV.dcells,D.cells?,stcV,stcS,leafOk,eqDs,eqD,packA,D.val?,↓reduceIte,reduceCtorEq,Nat.reduceAdd,Nat.reduceSub,Nat.reduceMul,List.reduceReplicate,Nat.reduceLeDiff,Nat.reduceLT,Nat.reduceBEq,Nat.reduceEqDiff,Int.reduceNeg,Int.reduceEq,Int.reduceLE,Int.reduceLT,tfb,ctz3,x3_11,x3_12,x3_12_m1,x3_13,x3_13a0,x3_14,x3_15,x3_15_m1,x3_16,x3_16_m1,x3_16a0,x3_17,x3_17_m1,a1, a2, a3]
    refine loop_s (O := O3) (tb := 0) Ct3_ok hmix (by kernel_rfl) (σ := Nat) (fun i => [(5, .i i)]) (fun i => i ≤ r.length) (fun i => r.length - i) (fun i => i + 1) 0 (Nat.zero_le _) ?_ ?_
    · simp (maxSteps := 4000000) +contextual (disch := first | omega | exact qdb_ok (by kernel_rfl) | exact okb_ok (by kernel_rfl)) only [bw1,bw2,bw3,bw4,bw5,bw6,bw7,bc0,bc1,bc2,bc3,bc4,bc5,bc6,bc7,bb0,setPs,AV.owns,AV.datF,AV.frz,AV.cpy,ifV,isEqB,nilV,nilX,AV.isNilS,AV.isNoRows,wk,dclo,datOf,binIs,addF,AV.isPtr,idxV,AV.isSl,AV.isSlice,AV.rows,ps,pv,extV,extS,AV.outs,AV.outF,packD,AV.dl,fieldV,fieldS,AV.cells?,AV.upr,AV.menc,AV.one,D.one,Value.oneCell',tagOf,AV.isApp,strV,strS,bolV,bolS,slcV,AV.isSlD,asrtS,AV.dcells,D.cells?,stcV,stcS,leafOk,eqDs,eqD,packA,D.val?,↓reduceIte,reduceCtorEq,Nat.reduceAdd,Nat.reduceSub,Nat.reduceMul,List.reduceReplicate,Nat.reduceLeDiff,Nat.reduceLT,Nat.reduceBEq,Nat.reduceEqDiff,Int.reduceNeg,Int.reduceEq,Int.reduceLE,Int.reduceLT,tfb,ctz3,x3_11,x3_12,x3_12_m1,x3_13,x3_13a0,x3_14,x3_15,x3_15_m1,x3_16,x3_16_m1,x3_16a0,x3_17,x3_17_m1]
      try rfl
    intro i hi
    by_cases hlt : i < r.length
    · have hlt' : (i : Int) < r.length := by omega
      have hn := hloop i hlt
      simp (maxSteps := 4000000) +contextual (disch := first | omega | exact qdb_ok (by kernel_rfl) | exact okb_ok (by kernel_rfl)) only [bw1,bw2,bw3,bw4,bw5,bw6,bw7,bc0,bc1,bc2,bc3,bc4,bc5,bc6,bc7,bb0,setPs,AV.owns,AV.datF,AV.frz,AV.cpy,ifV,isEqB,nilV,nilX,AV.isNilS,AV.isNoRows,wk,dclo,datOf,binIs,addF,AV.isPtr,idxV,AV.isSl,AV.isSlice,AV.rows,ps,pv,extV,extS,AV.outs,AV.outF,packD,AV.dl,fieldV,fieldS,AV.cells?,AV.upr,AV.menc,AV.one,D.one,Value.oneCell',tagOf,AV.isApp,strV,strS,bolV,bolS,slcV,AV.isSlD,asrtS,AV.dcells,D.cells?,stcV,stcS,leafOk,eqDs,eqD,packA,D.val?,↓reduceIte,reduceCtorEq,Nat.reduceAdd,Nat.reduceSub,Nat.reduceMul,List.reduceReplicate,Nat.reduceLeDiff,Nat.reduceLT,Nat.reduceBEq,Nat.reduceEqDiff,Int.reduceNeg,Int.reduceEq,Int.reduceLE,Int.reduceLT,tfb,ctz3,x3_11,x3_12,x3_12_m1,x3_13,x3_13a0,x3_14,x3_15,x3_15_m1,x3_16,x3_16_m1,x3_16a0,x3_17,x3_17_m1,eq_self, hlt', hn]
      and_intros <;> first | omega | rfl | trivial
    · have hlt' : ¬ (i : Int) < r.length := by omega
      simp (maxSteps := 4000000) +contextual (disch := first | omega | exact qdb_ok (by kernel_rfl) | exact okb_ok (by kernel_rfl)) only [bw1,bw2,bw3,bw4,bw5,bw6,bw7,bc0,bc1,bc2,bc3,bc4,bc5,bc6,bc7,bb0,setPs,AV.owns,AV.datF,AV.frz,AV.cpy,ifV,isEqB,nilV,nilX,AV.isNilS,AV.isNoRows,wk,dclo,datOf,binIs,addF,AV.isPtr,idxV,AV.isSl,AV.isSlice,AV.rows,ps,pv,extV,extS,AV.outs,AV.outF,packD,AV.dl,fieldV,fieldS,AV.cells?,AV.upr,AV.menc,AV.one,D.one,Value.oneCell',tagOf,AV.isApp,strV,strS,bolV,bolS,slcV,AV.isSlD,asrtS,AV.dcells,D.cells?,stcV,stcS,leafOk,eqDs,eqD,packA,D.val?,↓reduceIte,reduceCtorEq,Nat.reduceAdd,Nat.reduceSub,Nat.reduceMul,List.reduceReplicate,Nat.reduceLeDiff,Nat.reduceLT,Nat.reduceBEq,Nat.reduceEqDiff,Int.reduceNeg,Int.reduceEq,Int.reduceLE,Int.reduceLT,tfb,ctz3,x3_11,x3_12,x3_12_m1,x3_13,x3_13a0,x3_14,x3_15,x3_15_m1,x3_16,x3_16_m1,x3_16a0,x3_17,x3_17_m1,eq_self, hlt', hl, hp, heb, hfar]
  have hp := play_ok' he
  by_cases hf : (lgR l).2 = 0
  case neg =>
    have hfb : ((lgR l).2 != 0) = true := by simpa using hf
    refine PF_nil (PF_start (O := O3) Ct3_ok hmix ho3 Try.func3 c3 rfl Try.ntmps3 Try.results3 ?_)
    simp (maxSteps := 4000000) +contextual (disch := first | omega | exact qdb_ok (by kernel_rfl) | exact okb_ok (by kernel_rfl)) only [bw1,bw2,bw3,bw4,bw5,bw6,bw7,bc0,bc1,bc2,bc3,bc4,bc5,bc6,bc7,bb0,setPs,AV.owns,AV.datF,AV.frz,AV.cpy,ifV,isEqB,nilV,nilX,AV.isNilS,AV.isNoRows,wk,dclo,datOf,binIs,addF,AV.isPtr,idxV,AV.isSl,AV.isSlice,AV.rows,ps,pv,extV,extS,AV.outs,AV.outF,packD,AV.dl,fieldV,fieldS,AV.cells?,AV.upr,AV.menc,AV.one,D.one,Value.oneCell',tagOf,AV.isApp,strV,strS,bolV,bolS,slcV,AV.isSlD,asrtS,AV.dcells,D.cells?,stcV,stcS,leafOk,eqDs,eqD,packA,D.val?,↓reduceIte,reduceCtorEq,Nat.reduceAdd,Nat.reduceSub,Nat.reduceMul,List.reduceReplicate,Nat.reduceLeDiff,Nat.reduceLT,Nat.reduceBEq,Nat.reduceEqDiff,Int.reduceNeg,Int.reduceEq,Int.reduceLE,Int.reduceLT,tfb,ctz3,x3_11,x3_12,x3_12_m1,x3_13,x3_13a0,x3_14,x3_15,x3_15_m1,x3_16,x3_16_m1,x3_16a0,x3_17,x3_17_m1,a1, a2, a3]
    refine loop_s (O := O3) (tb := 0) Ct3_ok hmix (by kernel_rfl) (σ := Nat) (fun i => [(5, .i i)]) (fun i => i ≤ r.length) (fun i => r.length - i) (fun i => i + 1) 0 (Nat.zero_le _) ?_ ?_
    · simp (maxSteps := 4000000) +contextual (disch := first | omega | exact qdb_ok (by kernel_rfl) | exact okb_ok (by kernel_rfl)) only [bw1,bw2,bw3,bw4,bw5,bw6,bw7,bc0,bc1,bc2,bc3,bc4,bc5,bc6,bc7,bb0,setPs,AV.owns,AV.datF,AV.frz,AV.cpy,ifV,isEqB,nilV,nilX,AV.isNilS,AV.isNoRows,wk,dclo,datOf,binIs,addF,AV.isPtr,idxV,AV.isSl,AV.isSlice,AV.rows,ps,pv,extV,extS,AV.outs,AV.outF,packD,AV.dl,fieldV,fieldS,AV.cells?,AV.upr,AV.menc,AV.one,D.one,Value.oneCell',tagOf,AV.isApp,strV,strS,bolV,bolS,slcV,AV.isSlD,asrtS,AV.dcells,D.cells?,stcV,stcS,leafOk,eqDs,eqD,packA,D.val?,↓reduceIte,reduceCtorEq,Nat.reduceAdd,Nat.reduceSub,Nat.reduceMul,List.reduceReplicate,Nat.reduceLeDiff,Nat.reduceLT,Nat.reduceBEq,Nat.reduceEqDiff,Int.reduceNeg,Int.reduceEq,Int.reduceLE,Int.reduceLT,tfb,ctz3,x3_11,x3_12,x3_12_m1,x3_13,x3_13a0,x3_14,x3_15,x3_15_m1,x3_16,x3_16_m1,x3_16a0,x3_17,x3_17_m1]
      try rfl
    intro i hi
    by_cases hlt : i < r.length
    · have hlt' : (i : Int) < r.length := by omega
      have hn := hloop i hlt
      simp (maxSteps := 4000000) +contextual (disch := first | omega | exact qdb_ok (by kernel_rfl) | exact okb_ok (by kernel_rfl)) only [bw1,bw2,bw3,bw4,bw5,bw6,bw7,bc0,bc1,bc2,bc3,bc4,bc5,bc6,bc7,bb0,setPs,AV.owns,AV.datF,AV.frz,AV.cpy,ifV,isEqB,nilV,nilX,AV.isNilS,AV.isNoRows,wk,dclo,datOf,binIs,addF,AV.isPtr,idxV,AV.isSl,AV.isSlice,AV.rows,ps,pv,extV,extS,AV.outs,AV.outF,packD,AV.dl,fieldV,fieldS,AV.cells?,AV.upr,AV.menc,AV.one,D.one,Value.oneCell',tagOf,AV.isApp,strV,strS,bolV,bolS,slcV,AV.isSlD,asrtS,AV.dcells,D.cells?,stcV,stcS,leafOk,eqDs,eqD,packA,D.val?,↓reduceIte,reduceCtorEq,Nat.reduceAdd,Nat.reduceSub,Nat.reduceMul,List.reduceReplicate,Nat.reduceLeDiff,Nat.reduceLT,Nat.reduceBEq,Nat.reduceEqDiff,Int.reduceNeg,Int.reduceEq,Int.reduceLE,Int.reduceLT,tfb,ctz3,x3_11,x3_12,x3_12_m1,x3_13,x3_13a0,x3_14,x3_15,x3_15_m1,x3_16,x3_16_m1,x3_16a0,x3_17,x3_17_m1,eq_self, hlt', hn]
      and_intros <;> first | omega | rfl | trivial
    · have hlt' : ¬ (i : Int) < r.length := by omega
      simp (maxSteps := 4000000) +contextual (disch := first | omega | exact qdb_ok (by kernel_rfl) | exact okb_ok (by kernel_rfl)) only [bw1,bw2,bw3,bw4,bw5,bw6,bw7,bc0,bc1,bc2,bc3,bc4,bc5,bc6,bc7,bb0,setPs,AV.owns,AV.datF,AV.frz,AV.cpy,ifV,isEqB,nilV,nilX,AV.isNilS,AV.isNoRows,wk,dclo,datOf,binIs,addF,AV.isPtr,idxV,AV.isSl,AV.isSlice,AV.rows,ps,pv,extV,extS,AV.outs,AV.outF,packD,AV.dl,fieldV,fieldS,AV.cells?,AV.upr,AV.menc,AV.one,D.one,Value.oneCell',tagOf,AV.isApp,strV,strS,bolV,bolS,slcV,AV.isSlD,asrtS,AV.dcells,D.cells?,stcV,stcS,leafOk,eqDs,eqD,packA,D.val?,↓reduceIte,reduceCtorEq,Nat.reduceAdd,Nat.reduceSub,Nat.reduceMul,List.reduceReplicate,Nat.reduceLeDiff,Nat.reduceLT,Nat.reduceBEq,Nat.reduceEqDiff,Int.reduceNeg,Int.reduceEq,Int.reduceLE,Int.reduceLT,tfb,ctz3,x3_11,x3_12,x3_12_m1,x3_13,x3_13a0,x3_14,x3_15,x3_15_m1,x3_16,x3_16_m1,x3_16a0,x3_17,x3_17_m1,eq_self, hlt', hl, hp, hfb, hfar, bne_self_eq_false]
  have hS := sched_of hf
  have hleaOk := hS.ok
  have hG := good_of he
  obtain ⟨lst, hlst1, hlst2⟩ : ∃ lst : Int, (r.length = 0 → lst = -1) ∧ (0 < r.length → lst = lastD r) := by
    by_cases h0 : r.length = 0
    · exact ⟨-1, fun _ => rfl, fun h => by omega⟩
    · exact ⟨lastD r, fun h => absurd h h0, fun _ => rfl⟩
  have hl1 : 0 < r.length → (r.length : Int) - 1 = ((r.length - 1 : Nat) : Int) := fun h => by omega
  have hlast : 0 < r.length → (r.getD (r.length - 1) default).day = lst := fun h0 => by rw [hlst2 h0]; unfold lastD; rw [if_pos h0]
  obtain ⟨fe, hfe⟩ : ∃ fe : Int, (lgR l).1 = fe := ⟨_, rfl⟩
  have hrep : ∀ n : Nat, List.replicate n [D.v (.int .i64 0)] = (List.replicate n (0 : Int)).map ic := fun n => by rw [List.map_replicate]
  have hmk : l.far.length ≤ 6 := hS.n
  by_cases h0 : 0 < r.length
  case' pos =>
    have h0' : (0 : Int) < r.length := by omega
    have hl1 := hl1 h0
    have hlast := hlast h0
  case' neg =>
    have h0' : ¬ (0 : Int) < r.length := by omega
    have hl1 := h0'
    have hlast := h0'
    have hlm := hlst1 (by omega)
  all_goals
    refine PF_nil (PF_start (O := O3) Ct3_ok hmix ho3 Try.func3 c3 rfl Try.ntmps3 Try.results3 ?_)
    simp (maxSteps := 4000000) +contextual (disch := first | omega | exact qdb_ok (by kernel_rfl) | exact okb_ok (by kernel_rfl)) only [bw1,bw2,bw3,bw4,bw5,bw6,bw7,bc0,bc1,bc2,bc3,bc4,bc5,bc6,bc7,bb0,setPs,AV.owns,AV.datF,AV.frz,AV.cpy,ifV,isEqB,nilV,nilX,AV.isNilS,AV.isNoRows,wk,dclo,datOf,binIs,addF,AV.isPtr,idxV,AV.isSl,AV.isSlice,AV.rows,ps,pv,extV,extS,AV.outs,AV.outF,packD,AV.dl,fieldV,fieldS,AV.cells?,AV.upr,AV.menc,AV.one,D.one,Value.oneCell',tagOf,AV.isApp,strV,strS,bolV,bolS,slcV,AV.isSlD,asrtS,AV.dcells,D.cells?,stcV,stcS,leafOk,eqDs,eqD,packA,D.val?,↓reduceIte,reduceCtorEq,Nat.reduceAdd,Nat.reduceSub,Nat.reduceMul,List.reduceReplicate,Nat.reduceLeDiff,Nat.reduceLT,Nat.reduceBEq,Nat.reduceEqDiff,Int.reduceNeg,Int.reduceEq,Int.reduceLE,Int.reduceLT,tfb,ctz3,x3_11,x3_12,x3_12_m1,x3_13,x3_13a0,x3_14,x3_15,x3_15_m1,x3_16,x3_16_m1,x3_16a0,x3_17,x3_17_m1,a1, a2, a3]
    refine loop_s (O := O3) (tb := 0) Ct3_ok hmix (by kernel_rfl) (σ := Nat) (fun i => [(5, .i i)]) (fun i => i ≤ r.length) (fun i => r.length - i) (fun i => i + 1) 0 (Nat.zero_le _) ?_ ?_
    · simp (maxSteps := 4000000) +contextual (disch := first | omega | exact qdb_ok (by kernel_rfl) | exact okb_ok (by kernel_rfl)) only [bw1,bw2,bw3,bw4,bw5,bw6,bw7,bc0,bc1,bc2,bc3,bc4,bc5,bc6,bc7,bb0,setPs,AV.owns,AV.datF,AV.frz,AV.cpy,ifV,isEqB,nilV,nilX,AV.isNilS,AV.isNoRows,wk,dclo,datOf,binIs,addF,AV.isPtr,idxV,AV.isSl,AV.isSlice,AV.rows,ps,pv,extV,extS,AV.outs,AV.outF,packD,AV.dl,fieldV,fieldS,AV.cells?,AV.upr,AV.menc,AV.one,D.one,Value.oneCell',tagOf,AV.isApp,strV,strS,bolV,bolS,slcV,AV.isSlD,asrtS,AV.dcells,D.cells?,stcV,stcS,leafOk,eqDs,eqD,packA,D.val?,↓reduceIte,reduceCtorEq,Nat.reduceAdd,Nat.reduceSub,Nat.reduceMul,List.reduceReplicate,Nat.reduceLeDiff,Nat.reduceLT,Nat.reduceBEq,Nat.reduceEqDiff,Int.reduceNeg,Int.reduceEq,Int.reduceLE,Int.reduceLT,tfb,ctz3,x3_11,x3_12,x3_12_m1,x3_13,x3_13a0,x3_14,x3_15,x3_15_m1,x3_16,x3_16_m1,x3_16a0,x3_17,x3_17_m1]
      try rfl
    intro i hi
    by_cases hlt : i < r.length
    · have hlt' : (i : Int) < r.length := by omega
      have hn := hloop i hlt
      simp (maxSteps := 4000000) +contextual (disch := first | omega | exact qdb_ok (by kernel_rfl) | exact okb_ok (by kernel_rfl)) only [bw1,bw2,bw3,bw4,bw5,bw6,bw7,bc0,bc1,bc2,bc3,bc4,bc5,bc6,bc7,bb0,setPs,AV.owns,AV.datF,AV.frz,AV.cpy,ifV,isEqB,nilV,nilX,AV.isNilS,AV.isNoRows,wk,dclo,datOf,binIs,addF,AV.isPtr,idxV,AV.isSl,AV.isSlice,AV.rows,ps,pv,extV,extS,AV.outs,AV.outF,packD,AV.dl,fieldV,fieldS,AV.cells?,AV.upr,AV.menc,AV.one,D.one,Value.oneCell',tagOf,AV.isApp,strV,strS,bolV,bolS,slcV,AV.isSlD,asrtS,AV.dcells,D.cells?,stcV,stcS,leafOk,eqDs,eqD,packA,D.val?,↓reduceIte,reduceCtorEq,Nat.reduceAdd,Nat.reduceSub,Nat.reduceMul,List.reduceReplicate,Nat.reduceLeDiff,Nat.reduceLT,Nat.reduceBEq,Nat.reduceEqDiff,Int.reduceNeg,Int.reduceEq,Int.reduceLE,Int.reduceLT,tfb,ctz3,x3_11,x3_12,x3_12_m1,x3_13,x3_13a0,x3_14,x3_15,x3_15_m1,x3_16,x3_16_m1,x3_16a0,x3_17,x3_17_m1,eq_self, hlt', hn]
      and_intros <;> first | omega | rfl | trivial
    have hlt' : ¬ (i : Int) < r.length := by omega
    obtain rfl : i = r.length := by omega
    simp (maxSteps := 4000000) +contextual (disch := first | omega | exact qdb_ok (by kernel_rfl) | exact okb_ok (by kernel_rfl)) only [bw1,bw2,bw3,bw4,bw5,bw6,bw7,bc0,bc1,bc2,bc3,bc4,bc5,bc6,bc7,bb0,setPs,AV.owns,AV.datF,AV.frz,AV.cpy,ifV,isEqB,nilV,nilX,AV.isNilS,AV.isNoRows,wk,dclo,datOf,binIs,addF,AV.isPtr,idxV,AV.isSl,AV.isSlice,AV.rows,ps,pv,extV,extS,AV.outs,AV.outF,packD,AV.dl,fieldV,fieldS,AV.cells?,AV.upr,AV.menc,AV.one,D.one,Value.oneCell',tagOf,AV.isApp,strV,strS,bolV,bolS,slcV,AV.isSlD,asrtS,AV.dcells,D.cells?,stcV,stcS,leafOk,eqDs,eqD,packA,D.val?,↓reduceIte,reduceCtorEq,Nat.reduceAdd,Nat.reduceSub,Nat.reduceMul,List.reduceReplicate,Nat.reduceLeDiff,Nat.reduceLT,Nat.reduceBEq,Nat.reduceEqDiff,Int.reduceNeg,Int.reduceEq,Int.reduceLE,Int.reduceLT,tfb,ctz3,x3_11,x3_12,x3_12_m1,x3_13,x3_13a0,x3_14,x3_15,x3_15_m1,x3_16,x3_16_m1,x3_16a0,x3_17,x3_17_m1,eq_self, hlt', hl, hp, hf, hfe, hfar, bne_self_eq_false, hleaOk, h0', hl1, hlast, hrep, Int.toNat_natCast]
    and_intros
    any_goals omega
    refine loop_xu (O := O3) (tb := 0) Ct3_ok hmix (by kernel_rfl) (σ := Nat × List Ev × List Int) (fun y => [(11, .own 83 30 5 ((r ++ y.2.1).map Ev.c)), (12, .i lst), (13, .own 99 3 1 (y.2.2.map ic)), (14, .i y.1), (84, .any), (98, .any)]) (fun _ => []) (fun y => y.1 ≤ l.games.length ∧ Sea l r y.1 0 y.2.1 y.2.2) (fun y => l.games.length - y.1) (0, [], List.replicate l.far.length 0) ⟨Nat.zero_le _, sea_zero hG⟩ ?_ ?_
    · have hz : (r ++ []).map Ev.c = r.map Ev.c := by rw [List.append_nil]
      simp (maxSteps := 4000000) +contextual (disch := first | omega | exact qdb_ok (by kernel_rfl) | exact okb_ok (by kernel_rfl)) only [bw1,bw2,bw3,bw4,bw5,bw6,bw7,bc0,bc1,bc2,bc3,bc4,bc5,bc6,bc7,bb0,setPs,AV.owns,AV.datF,AV.frz,AV.cpy,ifV,isEqB,nilV,nilX,AV.isNilS,AV.isNoRows,wk,dclo,datOf,binIs,addF,AV.isPtr,idxV,AV.isSl,AV.isSlice,AV.rows,ps,pv,extV,extS,AV.outs,AV.outF,packD,AV.dl,fieldV,fieldS,AV.cells?,AV.upr,AV.menc,AV.one,D.one,Value.oneCell',tagOf,AV.isApp,strV,strS,bolV,bolS,slcV,AV.isSlD,asrtS,AV.dcells,D.cells?,stcV,stcS,leafOk,eqDs,eqD,packA,D.val?,↓reduceIte,reduceCtorEq,Nat.reduceAdd,Nat.reduceSub,Nat.reduceMul,List.reduceReplicate,Nat.reduceLeDiff,Nat.reduceLT,Nat.reduceBEq,Nat.reduceEqDiff,Int.reduceNeg,Int.reduceEq,Int.reduceLE,Int.reduceLT,tfb,ctz3,x3_11,x3_12,x3_12_m1,x3_13,x3_13a0,x3_14,x3_15,x3_15_m1,x3_16,x3_16_m1,x3_16a0,x3_17,x3_17_m1,eq_self, hz]
      try (rw [hlm])
      try rfl
    rintro ⟨i, ms, gs⟩ ⟨hi, hSea⟩
    simp only at hi hSea
    by_cases hlt : i < l.games.length
    case neg =>
      have hlt' : ¬ (i : Int) < l.games.length := by omega
      have hMl : (runR r).1.mem.length ≤ 256 := by have := (hG.inv hl.2).1.1; omega
      have hmoM : ∀ q, q < (runR r).1.mem.length → mo (runR r).1 ((runR r).1.mem.getD q default).person = some ((runR r).1.mem.getD q default) := fun q h1 => (mo_some hG.srt).2 ⟨by rw [at_lt h1]; exact List.getElem_mem _, rfl⟩
      have hbk := fun q h1 => sea_back hSea (hmoM q h1)
      have hgd := hSea.g0
      have hgl := hSea.gl
      have hshs : ShsOk (r ++ ms) := ⟨by have := hSea.len; rw [List.length_append]; omega, fun x hx => by
        rcases List.mem_append.1 hx with hx | hx
        · have := hsh x hx; omega
        · have := hSea.sh x hx; omega⟩
      simp (maxSteps := 4000000) +contextual (disch := first | omega | exact qdb_ok (by kernel_rfl) | exact okb_ok (by kernel_rfl)) only [bw1,bw2,bw3,bw4,bw5,bw6,bw7,bc0,bc1,bc2,bc3,bc4,bc5,bc6,bc7,bb0,setPs,AV.owns,AV.datF,AV.frz,AV.cpy,ifV,isEqB,nilV,nilX,AV.isNilS,AV.isNoRows,wk,dclo,datOf,binIs,addF,AV.isPtr,idxV,AV.isSl,AV.isSlice,AV.rows,ps,pv,extV,extS,AV.outs,AV.outF,packD,AV.dl,fieldV,fieldS,AV.cells?,AV.upr,AV.menc,AV.one,D.one,Value.oneCell',tagOf,AV.isApp,strV,strS,bolV,bolS,slcV,AV.isSlD,asrtS,AV.dcells,D.cells?,stcV,stcS,leafOk,eqDs,eqD,packA,D.val?,↓reduceIte,reduceCtorEq,Nat.reduceAdd,Nat.reduceSub,Nat.reduceMul,List.reduceReplicate,Nat.reduceLeDiff,Nat.reduceLT,Nat.reduceBEq,Nat.reduceEqDiff,Int.reduceNeg,Int.reduceEq,Int.reduceLE,Int.reduceLT,tfb,ctz3,x3_11,x3_12,x3_12_m1,x3_13,x3_13a0,x3_14,x3_15,x3_15_m1,x3_16,x3_16_m1,x3_16a0,x3_17,x3_17_m1,eq_self, hlt']
      refine loop_s (O := O3) (tb := 0) Ct3_ok hmix (by kernel_rfl) (σ := Nat) (fun q => [(25, .i q)]) (fun q => q ≤ (runR r).1.mem.length) (fun q => (runR r).1.mem.length - q) (fun q => q + 1) 0 (Nat.zero_le _) ?_ ?_
      · simp (maxSteps := 4000000) +contextual (disch := first | omega | exact qdb_ok (by kernel_rfl) | exact okb_ok (by kernel_rfl)) only [bw1,bw2,bw3,bw4,bw5,bw6,bw7,bc0,bc1,bc2,bc3,bc4,bc5,bc6,bc7,bb0,setPs,AV.owns,AV.datF,AV.frz,AV.cpy,ifV,isEqB,nilV,nilX,AV.isNilS,AV.isNoRows,wk,dclo,datOf,binIs,addF,AV.isPtr,idxV,AV.isSl,AV.isSlice,AV.rows,ps,pv,extV,extS,AV.outs,AV.outF,packD,AV.dl,fieldV,fieldS,AV.cells?,AV.upr,AV.menc,AV.one,D.one,Value.oneCell',tagOf,AV.isApp,strV,strS,bolV,bolS,slcV,AV.isSlD,asrtS,AV.dcells,D.cells?,stcV,stcS,leafOk,eqDs,eqD,packA,D.val?,↓reduceIte,reduceCtorEq,Nat.reduceAdd,Nat.reduceSub,Nat.reduceMul,List.reduceReplicate,Nat.reduceLeDiff,Nat.reduceLT,Nat.reduceBEq,Nat.reduceEqDiff,Int.reduceNeg,Int.reduceEq,Int.reduceLE,Int.reduceLT,tfb,ctz3,x3_11,x3_12,x3_12_m1,x3_13,x3_13a0,x3_14,x3_15,x3_15_m1,x3_16,x3_16_m1,x3_16a0,x3_17,x3_17_m1,eq_self]
        try rfl
      intro q hq
      by_cases hql : q < (runR r).1.mem.length
      case neg =>
        have hql' : ¬ (q : Int) < (runR r).1.mem.length := by omega
        simp (maxSteps := 4000000) +contextual (disch := first | omega | exact qdb_ok (by kernel_rfl) | exact okb_ok (by kernel_rfl)) only [bw1,bw2,bw3,bw4,bw5,bw6,bw7,bc0,bc1,bc2,bc3,bc4,bc5,bc6,bc7,bb0,setPs,AV.owns,AV.datF,AV.frz,AV.cpy,ifV,isEqB,nilV,nilX,AV.isNilS,AV.isNoRows,wk,dclo,datOf,binIs,addF,AV.isPtr,idxV,AV.isSl,AV.isSlice,AV.rows,ps,pv,extV,extS,AV.outs,AV.outF,packD,AV.dl,fieldV,fieldS,AV.cells?,AV.upr,AV.menc,AV.one,D.one,Value.oneCell',tagOf,AV.isApp,strV,strS,bolV,bolS,slcV,AV.isSlD,asrtS,AV.dcells,D.cells?,stcV,stcS,leafOk,eqDs,eqD,packA,D.val?,↓reduceIte,reduceCtorEq,Nat.reduceAdd,Nat.reduceSub,Nat.reduceMul,List.reduceReplicate,Nat.reduceLeDiff,Nat.reduceLT,Nat.reduceBEq,Nat.reduceEqDiff,Int.reduceNeg,Int.reduceEq,Int.reduceLE,Int.reduceLT,tfb,ctz3,x3_11,x3_12,x3_12_m1,x3_13,x3_13a0,x3_14,x3_15,x3_15_m1,x3_16,x3_16_m1,x3_16a0,x3_17,x3_17_m1,eq_self, hql']
      have hql' : (q : Int) < (runR r).1.mem.length := by omega
      have hb := hbk q hql
      have hmr := hG.rng ((runR r).1.mem.getD q default) (by rw [at_lt hql]; exact List.getElem_mem _)
      have hi64 : i64 ((runR r).1.mem.getD q default).person := i64_of (by omega)
      have hb1 := hb.1
      have hb2 := hb.2
      have hmo := (hG.inv hl.2).2.1 ((runR r).1.mem.getD q default) (by rw [at_lt hql]; exact List.getElem_mem _)
      unfold MOk at hmo
      have hbn1 := hmo.1.1
      have hbn2 := hmo.1.2
      have hz0 : ∀ n : Nat, gs.getD n 0 = gs.getD n default := fun _ => rfl
      unfold cntG at hb2
      by_cases hcl : ((runR r).1.mem.getD q default).club < gs.length
      · have hcn : ((runR r).1.mem.getD q default).club.toNat < gs.length := by omega
        have hgv := hgd (gs.getD ((runR r).1.mem.getD q default).club.toNat default) (by rw [at_lt hcn]; exact List.getElem_mem _)
        rw [if_pos hcl, hz0] at hb2
        simp (maxSteps := 4000000) +contextual (disch := first | omega | exact qdb_ok (by kernel_rfl) | exact okb_ok (by kernel_rfl)) only [bw1,bw2,bw3,bw4,bw5,bw6,bw7,bc0,bc1,bc2,bc3,bc4,bc5,bc6,bc7,bb0,setPs,AV.owns,AV.datF,AV.frz,AV.cpy,ifV,isEqB,nilV,nilX,AV.isNilS,AV.isNoRows,wk,dclo,datOf,binIs,addF,AV.isPtr,idxV,AV.isSl,AV.isSlice,AV.rows,ps,pv,extV,extS,AV.outs,AV.outF,packD,AV.dl,fieldV,fieldS,AV.cells?,AV.upr,AV.menc,AV.one,D.one,Value.oneCell',tagOf,AV.isApp,strV,strS,bolV,bolS,slcV,AV.isSlD,asrtS,AV.dcells,D.cells?,stcV,stcS,leafOk,eqDs,eqD,packA,D.val?,↓reduceIte,reduceCtorEq,Nat.reduceAdd,Nat.reduceSub,Nat.reduceMul,List.reduceReplicate,Nat.reduceLeDiff,Nat.reduceLT,Nat.reduceBEq,Nat.reduceEqDiff,Int.reduceNeg,Int.reduceEq,Int.reduceLE,Int.reduceLT,tfb,ctz3,x3_11,x3_12,x3_12_m1,x3_13,x3_13a0,x3_14,x3_15,x3_15_m1,x3_16,x3_16_m1,x3_16a0,x3_17,x3_17_m1,eq_self, hql', hcl, hshs, hi64, hb1, hb2, bne_self_eq_false]
        and_intros <;> first | omega | rfl | trivial
      · rw [if_neg hcl] at hb2
        simp (maxSteps := 4000000) +contextual (disch := first | omega | exact qdb_ok (by kernel_rfl) | exact okb_ok (by kernel_rfl)) only [bw1,bw2,bw3,bw4,bw5,bw6,bw7,bc0,bc1,bc2,bc3,bc4,bc5,bc6,bc7,bb0,setPs,AV.owns,AV.datF,AV.frz,AV.cpy,ifV,isEqB,nilV,nilX,AV.isNilS,AV.isNoRows,wk,dclo,datOf,binIs,addF,AV.isPtr,idxV,AV.isSl,AV.isSlice,AV.rows,ps,pv,extV,extS,AV.outs,AV.outF,packD,AV.dl,fieldV,fieldS,AV.cells?,AV.upr,AV.menc,AV.one,D.one,Value.oneCell',tagOf,AV.isApp,strV,strS,bolV,bolS,slcV,AV.isSlD,asrtS,AV.dcells,D.cells?,stcV,stcS,leafOk,eqDs,eqD,packA,D.val?,↓reduceIte,reduceCtorEq,Nat.reduceAdd,Nat.reduceSub,Nat.reduceMul,List.reduceReplicate,Nat.reduceLeDiff,Nat.reduceLT,Nat.reduceBEq,Nat.reduceEqDiff,Int.reduceNeg,Int.reduceEq,Int.reduceLE,Int.reduceLT,tfb,ctz3,x3_11,x3_12,x3_12_m1,x3_13,x3_13a0,x3_14,x3_15,x3_15_m1,x3_16,x3_16_m1,x3_16a0,x3_17,x3_17_m1,eq_self, hql', hcl, hshs, hi64, hb1, hb2, bne_self_eq_false]
        and_intros <;> first | omega | rfl | trivial
    have hlt' : (i : Int) < l.games.length := by omega
    by_cases q1 : (l.games.getD i default).day ≤ lst
    · simp (maxSteps := 4000000) +contextual (disch := first | omega | exact qdb_ok (by kernel_rfl) | exact okb_ok (by kernel_rfl)) only [bw1,bw2,bw3,bw4,bw5,bw6,bw7,bc0,bc1,bc2,bc3,bc4,bc5,bc6,bc7,bb0,setPs,AV.owns,AV.datF,AV.frz,AV.cpy,ifV,isEqB,nilV,nilX,AV.isNilS,AV.isNoRows,wk,dclo,datOf,binIs,addF,AV.isPtr,idxV,AV.isSl,AV.isSlice,AV.rows,ps,pv,extV,extS,AV.outs,AV.outF,packD,AV.dl,fieldV,fieldS,AV.cells?,AV.upr,AV.menc,AV.one,D.one,Value.oneCell',tagOf,AV.isApp,strV,strS,bolV,bolS,slcV,AV.isSlD,asrtS,AV.dcells,D.cells?,stcV,stcS,leafOk,eqDs,eqD,packA,D.val?,↓reduceIte,reduceCtorEq,Nat.reduceAdd,Nat.reduceSub,Nat.reduceMul,List.reduceReplicate,Nat.reduceLeDiff,Nat.reduceLT,Nat.reduceBEq,Nat.reduceEqDiff,Int.reduceNeg,Int.reduceEq,Int.reduceLE,Int.reduceLT,tfb,ctz3,x3_11,x3_12,x3_12_m1,x3_13,x3_13a0,x3_14,x3_15,x3_15_m1,x3_16,x3_16_m1,x3_16a0,x3_17,x3_17_m1,eq_self, hlt', q1]
      and_intros
      any_goals omega
      exact ⟨(i + 1, ms, gs), ⟨⟨by omega, sea_skip hSea⟩, by omega⟩, rfl, rfl, rfl⟩
    have hd : 0 < r.length → lastD r < (l.games.getD i default).day := fun h => by have := hlst2 h; omega
    simp (maxSteps := 4000000) +contextual (disch := first | omega | exact qdb_ok (by kernel_rfl) | exact okb_ok (by kernel_rfl)) only [bw1,bw2,bw3,bw4,bw5,bw6,bw7,bc0,bc1,bc2,bc3,bc4,bc5,bc6,bc7,bb0,setPs,AV.owns,AV.datF,AV.frz,AV.cpy,ifV,isEqB,nilV,nilX,AV.isNilS,AV.isNoRows,wk,dclo,datOf,binIs,addF,AV.isPtr,idxV,AV.isSl,AV.isSlice,AV.rows,ps,pv,extV,extS,AV.outs,AV.outF,packD,AV.dl,fieldV,fieldS,AV.cells?,AV.upr,AV.menc,AV.one,D.one,Value.oneCell',tagOf,AV.isApp,strV,strS,bolV,bolS,slcV,AV.isSlD,asrtS,AV.dcells,D.cells?,stcV,stcS,leafOk,eqDs,eqD,packA,D.val?,↓reduceIte,reduceCtorEq,Nat.reduceAdd,Nat.reduceSub,Nat.reduceMul,List.reduceReplicate,Nat.reduceLeDiff,Nat.reduceLT,Nat.reduceBEq,Nat.reduceEqDiff,Int.reduceNeg,Int.reduceEq,Int.reduceLE,Int.reduceLT,tfb,ctz3,x3_11,x3_12,x3_12_m1,x3_13,x3_13a0,x3_14,x3_15,x3_15_m1,x3_16,x3_16_m1,x3_16a0,x3_17,x3_17_m1,eq_self, hlt', q1]
    and_intros
    any_goals omega
    refine loop_xu (O := O3) (tb := 0) Ct3_ok hmix (by kernel_rfl) (σ := Nat × List Ev × List Int) (fun y => [(11, .own 83 30 5 ((r ++ y.2.1).map Ev.c)), (13, .own 99 3 1 (y.2.2.map ic)), (16, .i y.1)]) (fun _ => []) (fun y => (y.1 < 2 ∧ Sea l r i y.1 y.2.1 y.2.2) ∨ (y.1 = 2 ∧ Sea l r (i + 1) 0 y.2.1 y.2.2)) (fun y => 2 - y.1) (0, ms, gs) (.inl ⟨by omega, hSea⟩) ?_ ?_
    · simp (maxSteps := 4000000) +contextual (disch := first | omega | exact qdb_ok (by kernel_rfl) | exact okb_ok (by kernel_rfl)) only [bw1,bw2,bw3,bw4,bw5,bw6,bw7,bc0,bc1,bc2,bc3,bc4,bc5,bc6,bc7,bb0,setPs,AV.owns,AV.datF,AV.frz,AV.cpy,ifV,isEqB,nilV,nilX,AV.isNilS,AV.isNoRows,wk,dclo,datOf,binIs,addF,AV.isPtr,idxV,AV.isSl,AV.isSlice,AV.rows,ps,pv,extV,extS,AV.outs,AV.outF,packD,AV.dl,fieldV,fieldS,AV.cells?,AV.upr,AV.menc,AV.one,D.one,Value.oneCell',tagOf,AV.isApp,strV,strS,bolV,bolS,slcV,AV.isSlD,asrtS,AV.dcells,D.cells?,stcV,stcS,leafOk,eqDs,eqD,packA,D.val?,↓reduceIte,reduceCtorEq,Nat.reduceAdd,Nat.reduceSub,Nat.reduceMul,List.reduceReplicate,Nat.reduceLeDiff,Nat.reduceLT,Nat.reduceBEq,Nat.reduceEqDiff,Int.reduceNeg,Int.reduceEq,Int.reduceLE,Int.reduceLT,tfb,ctz3,x3_11,x3_12,x3_12_m1,x3_13,x3_13a0,x3_14,x3_15,x3_15_m1,x3_16,x3_16_m1,x3_16a0,x3_17,x3_17_m1,eq_self]
      try rfl
    rintro ⟨k, ms2, gs2⟩ hk
    simp only at hk
    rcases hk with ⟨hk2, hS2⟩ | ⟨hk2, hS2⟩
    case inr =>
      have hk2' : ¬ (k : Int) < 2 := by omega
      simp (maxSteps := 4000000) +contextual (disch := first | omega | exact qdb_ok (by kernel_rfl) | exact okb_ok (by kernel_rfl)) only [bw1,bw2,bw3,bw4,bw5,bw6,bw7,bc0,bc1,bc2,bc3,bc4,bc5,bc6,bc7,bb0,setPs,AV.owns,AV.datF,AV.frz,AV.cpy,ifV,isEqB,nilV,nilX,AV.isNilS,AV.isNoRows,wk,dclo,datOf,binIs,addF,AV.isPtr,idxV,AV.isSl,AV.isSlice,AV.rows,ps,pv,extV,extS,AV.outs,AV.outF,packD,AV.dl,fieldV,fieldS,AV.cells?,AV.upr,AV.menc,AV.one,D.one,Value.oneCell',tagOf,AV.isApp,strV,strS,bolV,bolS,slcV,AV.isSlD,asrtS,AV.dcells,D.cells?,stcV,stcS,leafOk,eqDs,eqD,packA,D.val?,↓reduceIte,reduceCtorEq,Nat.reduceAdd,Nat.reduceSub,Nat.reduceMul,List.reduceReplicate,Nat.reduceLeDiff,Nat.reduceLT,Nat.reduceBEq,Nat.reduceEqDiff,Int.reduceNeg,Int.reduceEq,Int.reduceLE,Int.reduceLT,tfb,ctz3,x3_11,x3_12,x3_12_m1,x3_13,x3_13a0,x3_14,x3_15,x3_15_m1,x3_16,x3_16_m1,x3_16a0,x3_17,x3_17_m1,eq_self, hk2', hlt']
      exact ⟨(i + 1, ms2, gs2), ⟨⟨by omega, hS2⟩, by omega⟩, rfl, rfl, rfl⟩
    obtain rfl | rfl : k = 0 ∨ k = 1 := by omega
    · skip
      have hc : (l.games.getD i default).home = if 0 = 1 then (l.games.getD i default).away else (l.games.getD i default).home := rfl
      have hsa := sea_able hS hS2 hr60 hlt (by omega) (by omega) hd hc
      have hss := sea_step hS hS2 hr60 hlt (by omega) (by omega) hd hc
      have hcr := hss.2.2.1
      have hlen := hss.2.2.2
      have hup := fun sh h1 h2 => sea_up hS hS2 hr60 hlt (by omega) (by omega) hd hc (sh := sh) h1 h2
      have hgl := hS2.gl
      have hgd := hS2.g0
      have hab := hsa.1
      have hno := hsa.2.1
      have hok := hsa.2.2
      have hlA : (ableL (runR (r ++ ms2)).1 (l.games.getD i default).home (l.games.getD i default).day).length ≤ 1000 := by
        have h1 := kN_le (s := (runR (r ++ ms2)).1) (c := (l.games.getD i default).home) (d := (l.games.getD i default).day) (Nat.le_refl _)
        have h2 := (hS2.good.inv (fun x hx => by
          rcases List.mem_append.1 hx with hx | hx
          · have := hsh x hx; omega
          · have := hS2.sh x hx; omega)).1.1
        unfold kN at h1
        unfold ableL
        omega
      have hshs : ShsOk (r ++ ms2) := ⟨by omega, fun x hx => by
        rcases List.mem_append.1 hx with hx | hx
        · have := hsh x hx; omega
        · have := hS2.sh x hx; omega⟩
      have hct : (l.games.getD i default).home.toNat < gs2.length := by omega
      have hgv := hgd (gs2.getD (l.games.getD i default).home.toNat default) (by rw [at_lt hct]; exact List.getElem_mem _)
      have hset : (gs2.map ic).set (l.games.getD i default).home.toNat [.v (.int .i64 (gs2.getD (l.games.getD i default).home.toNat default + 1))] = (gs2.set (l.games.getD i default).home.toNat (gs2.getD (l.games.getD i default).home.toNat 0 + 1)).map ic := by rw [List.map_set]; rfl
      have hrlen : (r ++ ms2).length ≤ 1000 := by omega
      have hrow : ∀ sh : List Int, (r ++ ms2).map Ev.c ++ [[.v (.int .i64 (l.games.getD i default).day), .v (.int .i64 6), .v (.int .i64 0), .v (.int .i64 (l.games.getD i default).home), .sl 1 (sh.map ic)]] = (r ++ (ms2 ++ ([⟨(l.games.getD i default).day, 6, 0, (l.games.getD i default).home, sh⟩] : List Ev))).map Ev.c := fun sh => by rw [← List.append_assoc, List.map_append (l₁ := r ++ ms2)]; rfl
      have hx16a := fun p => @x3_16a0 (r ++ ms2) ⟨(l.games.getD i default).day, 6, 0, (l.games.getD i default).home, [p]⟩
      have hx16b := fun sh => @x3_16_m1 (r ++ ms2) ⟨(l.games.getD i default).day, 6, 0, (l.games.getD i default).home, sh⟩
      dsimp only at hx16a hx16b
      generalize gs2.set (l.games.getD i default).home.toNat (gs2.getD (l.games.getD i default).home.toNat 0 + 1) = gs3 at hset hup
      generalize ableL (runR (r ++ ms2)).1 (l.games.getD i default).home (l.games.getD i default).day = A at hab hno hok hlA
      have z0 : ((0 : Nat) : Int) = 0 := rfl
      have z1 : ((1 : Nat) : Int) = 1 := rfl
      simp (maxSteps := 4000000) +contextual (disch := first | omega | exact qdb_ok (by kernel_rfl) | exact okb_ok (by kernel_rfl)) only [bw1,bw2,bw3,bw4,bw5,bw6,bw7,bc0,bc1,bc2,bc3,bc4,bc5,bc6,bc7,bb0,setPs,AV.owns,AV.datF,AV.frz,AV.cpy,ifV,isEqB,nilV,nilX,AV.isNilS,AV.isNoRows,wk,dclo,datOf,binIs,addF,AV.isPtr,idxV,AV.isSl,AV.isSlice,AV.rows,ps,pv,extV,extS,AV.outs,AV.outF,packD,AV.dl,fieldV,fieldS,AV.cells?,AV.upr,AV.menc,AV.one,D.one,Value.oneCell',tagOf,AV.isApp,strV,strS,bolV,bolS,slcV,AV.isSlD,asrtS,AV.dcells,D.cells?,stcV,stcS,leafOk,eqDs,eqD,packA,D.val?,↓reduceIte,reduceCtorEq,Nat.reduceAdd,Nat.reduceSub,Nat.reduceMul,List.reduceReplicate,Nat.reduceLeDiff,Nat.reduceLT,Nat.reduceBEq,Nat.reduceEqDiff,Int.reduceNeg,Int.reduceEq,Int.reduceLE,Int.reduceLT,tfb,ctz3,x3_11,x3_12,x3_12_m1,x3_13,x3_13a0,x3_14,x3_15,x3_15_m1,x3_16,x3_16_m1,x3_16a0,x3_17,x3_17_m1,eq_self, hlt', z0, z1, hab, hshs, hset, Int.reduceLT, Int.reduceBEq, bne_self_eq_false, beq_self_eq_true]
      and_intros
      any_goals omega
      have hMl : (runR r).1.mem.length ≤ 256 := by have := (hG.inv hl.2).1.1; omega
      have hMr : ∀ q, q < (runR r).1.mem.length → 0 ≤ ((runR r).1.mem.getD q default).person ∧ ((runR r).1.mem.getD q default).person ≤ 4095 := fun q hq => (hG.rng _ (by rw [at_lt hq]; exact List.getElem_mem _)).1
      refine loop_s (O := O3) (tb := 0) Ct3_ok hmix (by kernel_rfl) (σ := Nat) (fun q => [(20, .i q)]) (fun q => q ≤ (runR r).1.mem.length) (fun q => (runR r).1.mem.length - q) (fun q => q + 1) 0 (Nat.zero_le _) ?_ ?_
      · simp (maxSteps := 4000000) +contextual (disch := first | omega | exact qdb_ok (by kernel_rfl) | exact okb_ok (by kernel_rfl)) only [bw1,bw2,bw3,bw4,bw5,bw6,bw7,bc0,bc1,bc2,bc3,bc4,bc5,bc6,bc7,bb0,setPs,AV.owns,AV.datF,AV.frz,AV.cpy,ifV,isEqB,nilV,nilX,AV.isNilS,AV.isNoRows,wk,dclo,datOf,binIs,addF,AV.isPtr,idxV,AV.isSl,AV.isSlice,AV.rows,ps,pv,extV,extS,AV.outs,AV.outF,packD,AV.dl,fieldV,fieldS,AV.cells?,AV.upr,AV.menc,AV.one,D.one,Value.oneCell',tagOf,AV.isApp,strV,strS,bolV,bolS,slcV,AV.isSlD,asrtS,AV.dcells,D.cells?,stcV,stcS,leafOk,eqDs,eqD,packA,D.val?,↓reduceIte,reduceCtorEq,Nat.reduceAdd,Nat.reduceSub,Nat.reduceMul,List.reduceReplicate,Nat.reduceLeDiff,Nat.reduceLT,Nat.reduceBEq,Nat.reduceEqDiff,Int.reduceNeg,Int.reduceEq,Int.reduceLE,Int.reduceLT,tfb,ctz3,x3_11,x3_12,x3_12_m1,x3_13,x3_13a0,x3_14,x3_15,x3_15_m1,x3_16,x3_16_m1,x3_16a0,x3_17,x3_17_m1,eq_self]
        try rfl
      intro q hq
      by_cases hql : q < (runR r).1.mem.length
      case neg =>
        have hql' : ¬ (q : Int) < (runR r).1.mem.length := by omega
        by_cases hA20 : 20 < (A.length : Int)
        case' pos =>
          have hrw := hrow (A.take 20)
          have hacc := hok 20 (Nat.le_refl _)
          have hup' := hup (A.take 20) (by rw [List.length_take]; omega) hacc
          have hsl : (A.take 20).length ≤ 100 := by rw [List.length_take]; omega
          have hx16 := @hx16b (A.take 20)
        case' neg =>
          have htk : A.take 20 = A := List.take_of_length_le (by omega)
          have hrw := hrow A
          have hacc := hok 20 (Nat.le_refl _)
          rw [htk] at hacc
          have hup' := hup A (by omega) hacc
          have hsl : A.length ≤ 100 := by omega
          have hx16 := @hx16b A
        all_goals
          have hdt := decide_eq_true hacc
          rw [hdt] at hx16
          simp (maxSteps := 4000000) +contextual (disch := first | omega | exact qdb_ok (by kernel_rfl) | exact okb_ok (by kernel_rfl)) only [bw1,bw2,bw3,bw4,bw5,bw6,bw7,bc0,bc1,bc2,bc3,bc4,bc5,bc6,bc7,bb0,setPs,AV.owns,AV.datF,AV.frz,AV.cpy,ifV,isEqB,nilV,nilX,AV.isNilS,AV.isNoRows,wk,dclo,datOf,binIs,addF,AV.isPtr,idxV,AV.isSl,AV.isSlice,AV.rows,ps,pv,extV,extS,AV.outs,AV.outF,packD,AV.dl,fieldV,fieldS,AV.cells?,AV.upr,AV.menc,AV.one,D.one,Value.oneCell',tagOf,AV.isApp,strV,strS,bolV,bolS,slcV,AV.isSlD,asrtS,AV.dcells,D.cells?,stcV,stcS,leafOk,eqDs,eqD,packA,D.val?,↓reduceIte,reduceCtorEq,Nat.reduceAdd,Nat.reduceSub,Nat.reduceMul,List.reduceReplicate,Nat.reduceLeDiff,Nat.reduceLT,Nat.reduceBEq,Nat.reduceEqDiff,Int.reduceNeg,Int.reduceEq,Int.reduceLE,Int.reduceLT,tfb,ctz3,x3_11,x3_12,x3_12_m1,x3_13,x3_13a0,x3_14,x3_15,x3_15_m1,x3_16,x3_16_m1,x3_16a0,x3_17,x3_17_m1,eq_self, hql', hA20, Int.reduceToNat, Int.toNat_zero, List.drop_zero, ← List.map_take, hx16, hshs, hrlen, hsl, hdt, fl_b, hrw]
          and_intros
          any_goals omega
          exact ⟨(1, _, gs3), ⟨.inl ⟨by omega, hup'.1 rfl⟩, by omega⟩, rfl, rfl, rfl⟩
      have hql' : (q : Int) < (runR r).1.mem.length := by omega
      have hmr := hMr q hql
      have iz0 := izF_zero (b := ((runR r).1.mem.getD q default).club != (l.games.getD i default).home) (A := A) (p := ((runR r).1.mem.getD q default).person)
      have izs := fun z (hz : z < A.length) => izF_succ (b := ((runR r).1.mem.getD q default).club != (l.games.getD i default).home) (A := A) (p := ((runR r).1.mem.getD q default).person) hz
      have izl := fun h1 => izF_all (b := ((runR r).1.mem.getD q default).club != (l.games.getD i default).home) (A := A) (p := ((runR r).1.mem.getD q default).person) h1
      simp (maxSteps := 4000000) +contextual (disch := first | omega | exact qdb_ok (by kernel_rfl) | exact okb_ok (by kernel_rfl)) only [bw1,bw2,bw3,bw4,bw5,bw6,bw7,bc0,bc1,bc2,bc3,bc4,bc5,bc6,bc7,bb0,setPs,AV.owns,AV.datF,AV.frz,AV.cpy,ifV,isEqB,nilV,nilX,AV.isNilS,AV.isNoRows,wk,dclo,datOf,binIs,addF,AV.isPtr,idxV,AV.isSl,AV.isSlice,AV.rows,ps,pv,extV,extS,AV.outs,AV.outF,packD,AV.dl,fieldV,fieldS,AV.cells?,AV.upr,AV.menc,AV.one,D.one,Value.oneCell',tagOf,AV.isApp,strV,strS,bolV,bolS,slcV,AV.isSlD,asrtS,AV.dcells,D.cells?,stcV,stcS,leafOk,eqDs,eqD,packA,D.val?,↓reduceIte,reduceCtorEq,Nat.reduceAdd,Nat.reduceSub,Nat.reduceMul,List.reduceReplicate,Nat.reduceLeDiff,Nat.reduceLT,Nat.reduceBEq,Nat.reduceEqDiff,Int.reduceNeg,Int.reduceEq,Int.reduceLE,Int.reduceLT,tfb,ctz3,x3_11,x3_12,x3_12_m1,x3_13,x3_13a0,x3_14,x3_15,x3_15_m1,x3_16,x3_16_m1,x3_16a0,x3_17,x3_17_m1,eq_self, hql']
      and_intros
      any_goals omega
      refine loop_s (O := O3) (tb := 0) Ct3_ok hmix (by kernel_rfl) (σ := Nat) (fun z => [(22, .b (izF (((runR r).1.mem.getD q default).club != (l.games.getD i default).home) A ((runR r).1.mem.getD q default).person z)), (23, .i z)]) (fun z => z ≤ A.length) (fun z => A.length - z) (fun z => z + 1) 0 (Nat.zero_le _) ?_ ?_
      · simp (maxSteps := 4000000) +contextual (disch := first | omega | exact qdb_ok (by kernel_rfl) | exact okb_ok (by kernel_rfl)) only [bw1,bw2,bw3,bw4,bw5,bw6,bw7,bc0,bc1,bc2,bc3,bc4,bc5,bc6,bc7,bb0,setPs,AV.owns,AV.datF,AV.frz,AV.cpy,ifV,isEqB,nilV,nilX,AV.isNilS,AV.isNoRows,wk,dclo,datOf,binIs,addF,AV.isPtr,idxV,AV.isSl,AV.isSlice,AV.rows,ps,pv,extV,extS,AV.outs,AV.outF,packD,AV.dl,fieldV,fieldS,AV.cells?,AV.upr,AV.menc,AV.one,D.one,Value.oneCell',tagOf,AV.isApp,strV,strS,bolV,bolS,slcV,AV.isSlD,asrtS,AV.dcells,D.cells?,stcV,stcS,leafOk,eqDs,eqD,packA,D.val?,↓reduceIte,reduceCtorEq,Nat.reduceAdd,Nat.reduceSub,Nat.reduceMul,List.reduceReplicate,Nat.reduceLeDiff,Nat.reduceLT,Nat.reduceBEq,Nat.reduceEqDiff,Int.reduceNeg,Int.reduceEq,Int.reduceLE,Int.reduceLT,tfb,ctz3,x3_11,x3_12,x3_12_m1,x3_13,x3_13a0,x3_14,x3_15,x3_15_m1,x3_16,x3_16_m1,x3_16a0,x3_17,x3_17_m1,iz0]
        try rfl
      intro z hz
      by_cases hlz : z < A.length
      · have hlz' : (z : Int) < A.length := by omega
        have hs := izs z hlz
        by_cases f1 : izF (((runR r).1.mem.getD q default).club != (l.games.getD i default).home) A ((runR r).1.mem.getD q default).person z = true
        · rw [f1, Bool.true_or] at hs
          simp (maxSteps := 4000000) +contextual (disch := first | omega | exact qdb_ok (by kernel_rfl) | exact okb_ok (by kernel_rfl)) only [bw1,bw2,bw3,bw4,bw5,bw6,bw7,bc0,bc1,bc2,bc3,bc4,bc5,bc6,bc7,bb0,setPs,AV.owns,AV.datF,AV.frz,AV.cpy,ifV,isEqB,nilV,nilX,AV.isNilS,AV.isNoRows,wk,dclo,datOf,binIs,addF,AV.isPtr,idxV,AV.isSl,AV.isSlice,AV.rows,ps,pv,extV,extS,AV.outs,AV.outF,packD,AV.dl,fieldV,fieldS,AV.cells?,AV.upr,AV.menc,AV.one,D.one,Value.oneCell',tagOf,AV.isApp,strV,strS,bolV,bolS,slcV,AV.isSlD,asrtS,AV.dcells,D.cells?,stcV,stcS,leafOk,eqDs,eqD,packA,D.val?,↓reduceIte,reduceCtorEq,Nat.reduceAdd,Nat.reduceSub,Nat.reduceMul,List.reduceReplicate,Nat.reduceLeDiff,Nat.reduceLT,Nat.reduceBEq,Nat.reduceEqDiff,Int.reduceNeg,Int.reduceEq,Int.reduceLE,Int.reduceLT,tfb,ctz3,x3_11,x3_12,x3_12_m1,x3_13,x3_13a0,x3_14,x3_15,x3_15_m1,x3_16,x3_16_m1,x3_16a0,x3_17,x3_17_m1,eq_self, hlz', f1, hs]
          and_intros <;> first | omega | rfl | trivial
        · have f1b : izF (((runR r).1.mem.getD q default).club != (l.games.getD i default).home) A ((runR r).1.mem.getD q default).person z = false := by simpa using f1
          rw [f1b, Bool.false_or] at hs
          simp (maxSteps := 4000000) +contextual (disch := first | omega | exact qdb_ok (by kernel_rfl) | exact okb_ok (by kernel_rfl)) only [bw1,bw2,bw3,bw4,bw5,bw6,bw7,bc0,bc1,bc2,bc3,bc4,bc5,bc6,bc7,bb0,setPs,AV.owns,AV.datF,AV.frz,AV.cpy,ifV,isEqB,nilV,nilX,AV.isNilS,AV.isNoRows,wk,dclo,datOf,binIs,addF,AV.isPtr,idxV,AV.isSl,AV.isSlice,AV.rows,ps,pv,extV,extS,AV.outs,AV.outF,packD,AV.dl,fieldV,fieldS,AV.cells?,AV.upr,AV.menc,AV.one,D.one,Value.oneCell',tagOf,AV.isApp,strV,strS,bolV,bolS,slcV,AV.isSlD,asrtS,AV.dcells,D.cells?,stcV,stcS,leafOk,eqDs,eqD,packA,D.val?,↓reduceIte,reduceCtorEq,Nat.reduceAdd,Nat.reduceSub,Nat.reduceMul,List.reduceReplicate,Nat.reduceLeDiff,Nat.reduceLT,Nat.reduceBEq,Nat.reduceEqDiff,Int.reduceNeg,Int.reduceEq,Int.reduceLE,Int.reduceLT,tfb,ctz3,x3_11,x3_12,x3_12_m1,x3_13,x3_13a0,x3_14,x3_15,x3_15_m1,x3_16,x3_16_m1,x3_16a0,x3_17,x3_17_m1,eq_self, hlz', f1b, hs]
          and_intros <;> first | omega | rfl | trivial
      have hza : z = A.length := by omega
      have hlz' : ¬ (z : Int) < A.length := by omega
      by_cases f1 : izF (((runR r).1.mem.getD q default).club != (l.games.getD i default).home) A ((runR r).1.mem.getD q default).person z = true
      · simp (maxSteps := 4000000) +contextual (disch := first | omega | exact qdb_ok (by kernel_rfl) | exact okb_ok (by kernel_rfl)) only [bw1,bw2,bw3,bw4,bw5,bw6,bw7,bc0,bc1,bc2,bc3,bc4,bc5,bc6,bc7,bb0,setPs,AV.owns,AV.datF,AV.frz,AV.cpy,ifV,isEqB,nilV,nilX,AV.isNilS,AV.isNoRows,wk,dclo,datOf,binIs,addF,AV.isPtr,idxV,AV.isSl,AV.isSlice,AV.rows,ps,pv,extV,extS,AV.outs,AV.outF,packD,AV.dl,fieldV,fieldS,AV.cells?,AV.upr,AV.menc,AV.one,D.one,Value.oneCell',tagOf,AV.isApp,strV,strS,bolV,bolS,slcV,AV.isSlD,asrtS,AV.dcells,D.cells?,stcV,stcS,leafOk,eqDs,eqD,packA,D.val?,↓reduceIte,reduceCtorEq,Nat.reduceAdd,Nat.reduceSub,Nat.reduceMul,List.reduceReplicate,Nat.reduceLeDiff,Nat.reduceLT,Nat.reduceBEq,Nat.reduceEqDiff,Int.reduceNeg,Int.reduceEq,Int.reduceLE,Int.reduceLT,tfb,ctz3,x3_11,x3_12,x3_12_m1,x3_13,x3_13a0,x3_14,x3_15,x3_15_m1,x3_16,x3_16_m1,x3_16a0,x3_17,x3_17_m1,eq_self, hlz', f1]
        and_intros <;> first | omega | rfl | trivial
      · have f1b : izF (((runR r).1.mem.getD q default).club != (l.games.getD i default).home) A ((runR r).1.mem.getD q default).person z = false := by simpa using f1
        have hx16 := @hx16a ((runR r).1.mem.getD q default).person
        rw [decide_eq_false (hno ((runR r).1.mem.getD q default).person hmr (izl (by rw [← hza]; exact f1b)))] at hx16
        rw [show List.map ic [((runR r).1.mem.getD q default).person] = [[.v (.int .i64 ((runR r).1.mem.getD q default).person)]] from rfl] at hx16
        simp (maxSteps := 4000000) +contextual (disch := first | omega | exact qdb_ok (by kernel_rfl) | exact okb_ok (by kernel_rfl)) only [bw1,bw2,bw3,bw4,bw5,bw6,bw7,bc0,bc1,bc2,bc3,bc4,bc5,bc6,bc7,bb0,setPs,AV.owns,AV.datF,AV.frz,AV.cpy,ifV,isEqB,nilV,nilX,AV.isNilS,AV.isNoRows,wk,dclo,datOf,binIs,addF,AV.isPtr,idxV,AV.isSl,AV.isSlice,AV.rows,ps,pv,extV,extS,AV.outs,AV.outF,packD,AV.dl,fieldV,fieldS,AV.cells?,AV.upr,AV.menc,AV.one,D.one,Value.oneCell',tagOf,AV.isApp,strV,strS,bolV,bolS,slcV,AV.isSlD,asrtS,AV.dcells,D.cells?,stcV,stcS,leafOk,eqDs,eqD,packA,D.val?,↓reduceIte,reduceCtorEq,Nat.reduceAdd,Nat.reduceSub,Nat.reduceMul,List.reduceReplicate,Nat.reduceLeDiff,Nat.reduceLT,Nat.reduceBEq,Nat.reduceEqDiff,Int.reduceNeg,Int.reduceEq,Int.reduceLE,Int.reduceLT,tfb,ctz3,x3_11,x3_12,x3_12_m1,x3_13,x3_13a0,x3_14,x3_15,x3_15_m1,x3_16,x3_16_m1,x3_16a0,x3_17,x3_17_m1,eq_self, hlz', f1b, hx16, hshs, hrlen, fl_b]
        and_intros <;> first | omega | rfl | trivial
    · skip
      have hc : (l.games.getD i default).away = if 1 = 1 then (l.games.getD i default).away else (l.games.getD i default).home := rfl
      have hsa := sea_able hS hS2 hr60 hlt (by omega) (by omega) hd hc
      have hss := sea_step hS hS2 hr60 hlt (by omega) (by omega) hd hc
      have hcr := hss.2.2.1
      have hlen := hss.2.2.2
      have hup := fun sh h1 h2 => sea_up hS hS2 hr60 hlt (by omega) (by omega) hd hc (sh := sh) h1 h2
      have hgl := hS2.gl
      have hgd := hS2.g0
      have hab := hsa.1
      have hno := hsa.2.1
      have hok := hsa.2.2
      have hlA : (ableL (runR (r ++ ms2)).1 (l.games.getD i default).away (l.games.getD i default).day).length ≤ 1000 := by
        have h1 := kN_le (s := (runR (r ++ ms2)).1) (c := (l.games.getD i default).away) (d := (l.games.getD i default).day) (Nat.le_refl _)
        have h2 := (hS2.good.inv (fun x hx => by
          rcases List.mem_append.1 hx with hx | hx
          · have := hsh x hx; omega
          · have := hS2.sh x hx; omega)).1.1
        unfold kN at h1
        unfold ableL
        omega
      have hshs : ShsOk (r ++ ms2) := ⟨by omega, fun x hx => by
        rcases List.mem_append.1 hx with hx | hx
        · have := hsh x hx; omega
        · have := hS2.sh x hx; omega⟩
      have hct : (l.games.getD i default).away.toNat < gs2.length := by omega
      have hgv := hgd (gs2.getD (l.games.getD i default).away.toNat default) (by rw [at_lt hct]; exact List.getElem_mem _)
      have hset : (gs2.map ic).set (l.games.getD i default).away.toNat [.v (.int .i64 (gs2.getD (l.games.getD i default).away.toNat default + 1))] = (gs2.set (l.games.getD i default).away.toNat (gs2.getD (l.games.getD i default).away.toNat 0 + 1)).map ic := by rw [List.map_set]; rfl
      have hrlen : (r ++ ms2).length ≤ 1000 := by omega
      have hrow : ∀ sh : List Int, (r ++ ms2).map Ev.c ++ [[.v (.int .i64 (l.games.getD i default).day), .v (.int .i64 6), .v (.int .i64 0), .v (.int .i64 (l.games.getD i default).away), .sl 1 (sh.map ic)]] = (r ++ (ms2 ++ ([⟨(l.games.getD i default).day, 6, 0, (l.games.getD i default).away, sh⟩] : List Ev))).map Ev.c := fun sh => by rw [← List.append_assoc, List.map_append (l₁ := r ++ ms2)]; rfl
      have hx16a := fun p => @x3_16a0 (r ++ ms2) ⟨(l.games.getD i default).day, 6, 0, (l.games.getD i default).away, [p]⟩
      have hx16b := fun sh => @x3_16_m1 (r ++ ms2) ⟨(l.games.getD i default).day, 6, 0, (l.games.getD i default).away, sh⟩
      dsimp only at hx16a hx16b
      generalize gs2.set (l.games.getD i default).away.toNat (gs2.getD (l.games.getD i default).away.toNat 0 + 1) = gs3 at hset hup
      generalize ableL (runR (r ++ ms2)).1 (l.games.getD i default).away (l.games.getD i default).day = A at hab hno hok hlA
      have z0 : ((0 : Nat) : Int) = 0 := rfl
      have z1 : ((1 : Nat) : Int) = 1 := rfl
      simp (maxSteps := 4000000) +contextual (disch := first | omega | exact qdb_ok (by kernel_rfl) | exact okb_ok (by kernel_rfl)) only [bw1,bw2,bw3,bw4,bw5,bw6,bw7,bc0,bc1,bc2,bc3,bc4,bc5,bc6,bc7,bb0,setPs,AV.owns,AV.datF,AV.frz,AV.cpy,ifV,isEqB,nilV,nilX,AV.isNilS,AV.isNoRows,wk,dclo,datOf,binIs,addF,AV.isPtr,idxV,AV.isSl,AV.isSlice,AV.rows,ps,pv,extV,extS,AV.outs,AV.outF,packD,AV.dl,fieldV,fieldS,AV.cells?,AV.upr,AV.menc,AV.one,D.one,Value.oneCell',tagOf,AV.isApp,strV,strS,bolV,bolS,slcV,AV.isSlD,asrtS,AV.dcells,D.cells?,stcV,stcS,leafOk,eqDs,eqD,packA,D.val?,↓reduceIte,reduceCtorEq,Nat.reduceAdd,Nat.reduceSub,Nat.reduceMul,List.reduceReplicate,Nat.reduceLeDiff,Nat.reduceLT,Nat.reduceBEq,Nat.reduceEqDiff,Int.reduceNeg,Int.reduceEq,Int.reduceLE,Int.reduceLT,tfb,ctz3,x3_11,x3_12,x3_12_m1,x3_13,x3_13a0,x3_14,x3_15,x3_15_m1,x3_16,x3_16_m1,x3_16a0,x3_17,x3_17_m1,eq_self, hlt', z0, z1, hab, hshs, hset, Int.reduceLT, Int.reduceBEq, bne_self_eq_false, beq_self_eq_true]
      and_intros
      any_goals omega
      have hMl : (runR r).1.mem.length ≤ 256 := by have := (hG.inv hl.2).1.1; omega
      have hMr : ∀ q, q < (runR r).1.mem.length → 0 ≤ ((runR r).1.mem.getD q default).person ∧ ((runR r).1.mem.getD q default).person ≤ 4095 := fun q hq => (hG.rng _ (by rw [at_lt hq]; exact List.getElem_mem _)).1
      refine loop_s (O := O3) (tb := 0) Ct3_ok hmix (by kernel_rfl) (σ := Nat) (fun q => [(20, .i q)]) (fun q => q ≤ (runR r).1.mem.length) (fun q => (runR r).1.mem.length - q) (fun q => q + 1) 0 (Nat.zero_le _) ?_ ?_
      · simp (maxSteps := 4000000) +contextual (disch := first | omega | exact qdb_ok (by kernel_rfl) | exact okb_ok (by kernel_rfl)) only [bw1,bw2,bw3,bw4,bw5,bw6,bw7,bc0,bc1,bc2,bc3,bc4,bc5,bc6,bc7,bb0,setPs,AV.owns,AV.datF,AV.frz,AV.cpy,ifV,isEqB,nilV,nilX,AV.isNilS,AV.isNoRows,wk,dclo,datOf,binIs,addF,AV.isPtr,idxV,AV.isSl,AV.isSlice,AV.rows,ps,pv,extV,extS,AV.outs,AV.outF,packD,AV.dl,fieldV,fieldS,AV.cells?,AV.upr,AV.menc,AV.one,D.one,Value.oneCell',tagOf,AV.isApp,strV,strS,bolV,bolS,slcV,AV.isSlD,asrtS,AV.dcells,D.cells?,stcV,stcS,leafOk,eqDs,eqD,packA,D.val?,↓reduceIte,reduceCtorEq,Nat.reduceAdd,Nat.reduceSub,Nat.reduceMul,List.reduceReplicate,Nat.reduceLeDiff,Nat.reduceLT,Nat.reduceBEq,Nat.reduceEqDiff,Int.reduceNeg,Int.reduceEq,Int.reduceLE,Int.reduceLT,tfb,ctz3,x3_11,x3_12,x3_12_m1,x3_13,x3_13a0,x3_14,x3_15,x3_15_m1,x3_16,x3_16_m1,x3_16a0,x3_17,x3_17_m1,eq_self]
        try rfl
      intro q hq
      by_cases hql : q < (runR r).1.mem.length
      case neg =>
        have hql' : ¬ (q : Int) < (runR r).1.mem.length := by omega
        by_cases hA20 : 20 < (A.length : Int)
        case' pos =>
          have hrw := hrow (A.take 20)
          have hacc := hok 20 (Nat.le_refl _)
          have hup' := hup (A.take 20) (by rw [List.length_take]; omega) hacc
          have hsl : (A.take 20).length ≤ 100 := by rw [List.length_take]; omega
          have hx16 := @hx16b (A.take 20)
        case' neg =>
          have htk : A.take 20 = A := List.take_of_length_le (by omega)
          have hrw := hrow A
          have hacc := hok 20 (Nat.le_refl _)
          rw [htk] at hacc
          have hup' := hup A (by omega) hacc
          have hsl : A.length ≤ 100 := by omega
          have hx16 := @hx16b A
        all_goals
          have hdt := decide_eq_true hacc
          rw [hdt] at hx16
          simp (maxSteps := 4000000) +contextual (disch := first | omega | exact qdb_ok (by kernel_rfl) | exact okb_ok (by kernel_rfl)) only [bw1,bw2,bw3,bw4,bw5,bw6,bw7,bc0,bc1,bc2,bc3,bc4,bc5,bc6,bc7,bb0,setPs,AV.owns,AV.datF,AV.frz,AV.cpy,ifV,isEqB,nilV,nilX,AV.isNilS,AV.isNoRows,wk,dclo,datOf,binIs,addF,AV.isPtr,idxV,AV.isSl,AV.isSlice,AV.rows,ps,pv,extV,extS,AV.outs,AV.outF,packD,AV.dl,fieldV,fieldS,AV.cells?,AV.upr,AV.menc,AV.one,D.one,Value.oneCell',tagOf,AV.isApp,strV,strS,bolV,bolS,slcV,AV.isSlD,asrtS,AV.dcells,D.cells?,stcV,stcS,leafOk,eqDs,eqD,packA,D.val?,↓reduceIte,reduceCtorEq,Nat.reduceAdd,Nat.reduceSub,Nat.reduceMul,List.reduceReplicate,Nat.reduceLeDiff,Nat.reduceLT,Nat.reduceBEq,Nat.reduceEqDiff,Int.reduceNeg,Int.reduceEq,Int.reduceLE,Int.reduceLT,tfb,ctz3,x3_11,x3_12,x3_12_m1,x3_13,x3_13a0,x3_14,x3_15,x3_15_m1,x3_16,x3_16_m1,x3_16a0,x3_17,x3_17_m1,eq_self, hql', hA20, Int.reduceToNat, Int.toNat_zero, List.drop_zero, ← List.map_take, hx16, hshs, hrlen, hsl, hdt, fl_b, hrw]
          and_intros
          any_goals omega
          exact ⟨(2, _, gs3), ⟨.inr ⟨rfl, hup'.2 rfl⟩, by omega⟩, rfl, rfl, rfl⟩
      have hql' : (q : Int) < (runR r).1.mem.length := by omega
      have hmr := hMr q hql
      have iz0 := izF_zero (b := ((runR r).1.mem.getD q default).club != (l.games.getD i default).away) (A := A) (p := ((runR r).1.mem.getD q default).person)
      have izs := fun z (hz : z < A.length) => izF_succ (b := ((runR r).1.mem.getD q default).club != (l.games.getD i default).away) (A := A) (p := ((runR r).1.mem.getD q default).person) hz
      have izl := fun h1 => izF_all (b := ((runR r).1.mem.getD q default).club != (l.games.getD i default).away) (A := A) (p := ((runR r).1.mem.getD q default).person) h1
      simp (maxSteps := 4000000) +contextual (disch := first | omega | exact qdb_ok (by kernel_rfl) | exact okb_ok (by kernel_rfl)) only [bw1,bw2,bw3,bw4,bw5,bw6,bw7,bc0,bc1,bc2,bc3,bc4,bc5,bc6,bc7,bb0,setPs,AV.owns,AV.datF,AV.frz,AV.cpy,ifV,isEqB,nilV,nilX,AV.isNilS,AV.isNoRows,wk,dclo,datOf,binIs,addF,AV.isPtr,idxV,AV.isSl,AV.isSlice,AV.rows,ps,pv,extV,extS,AV.outs,AV.outF,packD,AV.dl,fieldV,fieldS,AV.cells?,AV.upr,AV.menc,AV.one,D.one,Value.oneCell',tagOf,AV.isApp,strV,strS,bolV,bolS,slcV,AV.isSlD,asrtS,AV.dcells,D.cells?,stcV,stcS,leafOk,eqDs,eqD,packA,D.val?,↓reduceIte,reduceCtorEq,Nat.reduceAdd,Nat.reduceSub,Nat.reduceMul,List.reduceReplicate,Nat.reduceLeDiff,Nat.reduceLT,Nat.reduceBEq,Nat.reduceEqDiff,Int.reduceNeg,Int.reduceEq,Int.reduceLE,Int.reduceLT,tfb,ctz3,x3_11,x3_12,x3_12_m1,x3_13,x3_13a0,x3_14,x3_15,x3_15_m1,x3_16,x3_16_m1,x3_16a0,x3_17,x3_17_m1,eq_self, hql']
      and_intros
      any_goals omega
      refine loop_s (O := O3) (tb := 0) Ct3_ok hmix (by kernel_rfl) (σ := Nat) (fun z => [(22, .b (izF (((runR r).1.mem.getD q default).club != (l.games.getD i default).away) A ((runR r).1.mem.getD q default).person z)), (23, .i z)]) (fun z => z ≤ A.length) (fun z => A.length - z) (fun z => z + 1) 0 (Nat.zero_le _) ?_ ?_
      · simp (maxSteps := 4000000) +contextual (disch := first | omega | exact qdb_ok (by kernel_rfl) | exact okb_ok (by kernel_rfl)) only [bw1,bw2,bw3,bw4,bw5,bw6,bw7,bc0,bc1,bc2,bc3,bc4,bc5,bc6,bc7,bb0,setPs,AV.owns,AV.datF,AV.frz,AV.cpy,ifV,isEqB,nilV,nilX,AV.isNilS,AV.isNoRows,wk,dclo,datOf,binIs,addF,AV.isPtr,idxV,AV.isSl,AV.isSlice,AV.rows,ps,pv,extV,extS,AV.outs,AV.outF,packD,AV.dl,fieldV,fieldS,AV.cells?,AV.upr,AV.menc,AV.one,D.one,Value.oneCell',tagOf,AV.isApp,strV,strS,bolV,bolS,slcV,AV.isSlD,asrtS,AV.dcells,D.cells?,stcV,stcS,leafOk,eqDs,eqD,packA,D.val?,↓reduceIte,reduceCtorEq,Nat.reduceAdd,Nat.reduceSub,Nat.reduceMul,List.reduceReplicate,Nat.reduceLeDiff,Nat.reduceLT,Nat.reduceBEq,Nat.reduceEqDiff,Int.reduceNeg,Int.reduceEq,Int.reduceLE,Int.reduceLT,tfb,ctz3,x3_11,x3_12,x3_12_m1,x3_13,x3_13a0,x3_14,x3_15,x3_15_m1,x3_16,x3_16_m1,x3_16a0,x3_17,x3_17_m1,iz0]
        try rfl
      intro z hz
      by_cases hlz : z < A.length
      · have hlz' : (z : Int) < A.length := by omega
        have hs := izs z hlz
        by_cases f1 : izF (((runR r).1.mem.getD q default).club != (l.games.getD i default).away) A ((runR r).1.mem.getD q default).person z = true
        · rw [f1, Bool.true_or] at hs
          simp (maxSteps := 4000000) +contextual (disch := first | omega | exact qdb_ok (by kernel_rfl) | exact okb_ok (by kernel_rfl)) only [bw1,bw2,bw3,bw4,bw5,bw6,bw7,bc0,bc1,bc2,bc3,bc4,bc5,bc6,bc7,bb0,setPs,AV.owns,AV.datF,AV.frz,AV.cpy,ifV,isEqB,nilV,nilX,AV.isNilS,AV.isNoRows,wk,dclo,datOf,binIs,addF,AV.isPtr,idxV,AV.isSl,AV.isSlice,AV.rows,ps,pv,extV,extS,AV.outs,AV.outF,packD,AV.dl,fieldV,fieldS,AV.cells?,AV.upr,AV.menc,AV.one,D.one,Value.oneCell',tagOf,AV.isApp,strV,strS,bolV,bolS,slcV,AV.isSlD,asrtS,AV.dcells,D.cells?,stcV,stcS,leafOk,eqDs,eqD,packA,D.val?,↓reduceIte,reduceCtorEq,Nat.reduceAdd,Nat.reduceSub,Nat.reduceMul,List.reduceReplicate,Nat.reduceLeDiff,Nat.reduceLT,Nat.reduceBEq,Nat.reduceEqDiff,Int.reduceNeg,Int.reduceEq,Int.reduceLE,Int.reduceLT,tfb,ctz3,x3_11,x3_12,x3_12_m1,x3_13,x3_13a0,x3_14,x3_15,x3_15_m1,x3_16,x3_16_m1,x3_16a0,x3_17,x3_17_m1,eq_self, hlz', f1, hs]
          and_intros <;> first | omega | rfl | trivial
        · have f1b : izF (((runR r).1.mem.getD q default).club != (l.games.getD i default).away) A ((runR r).1.mem.getD q default).person z = false := by simpa using f1
          rw [f1b, Bool.false_or] at hs
          simp (maxSteps := 4000000) +contextual (disch := first | omega | exact qdb_ok (by kernel_rfl) | exact okb_ok (by kernel_rfl)) only [bw1,bw2,bw3,bw4,bw5,bw6,bw7,bc0,bc1,bc2,bc3,bc4,bc5,bc6,bc7,bb0,setPs,AV.owns,AV.datF,AV.frz,AV.cpy,ifV,isEqB,nilV,nilX,AV.isNilS,AV.isNoRows,wk,dclo,datOf,binIs,addF,AV.isPtr,idxV,AV.isSl,AV.isSlice,AV.rows,ps,pv,extV,extS,AV.outs,AV.outF,packD,AV.dl,fieldV,fieldS,AV.cells?,AV.upr,AV.menc,AV.one,D.one,Value.oneCell',tagOf,AV.isApp,strV,strS,bolV,bolS,slcV,AV.isSlD,asrtS,AV.dcells,D.cells?,stcV,stcS,leafOk,eqDs,eqD,packA,D.val?,↓reduceIte,reduceCtorEq,Nat.reduceAdd,Nat.reduceSub,Nat.reduceMul,List.reduceReplicate,Nat.reduceLeDiff,Nat.reduceLT,Nat.reduceBEq,Nat.reduceEqDiff,Int.reduceNeg,Int.reduceEq,Int.reduceLE,Int.reduceLT,tfb,ctz3,x3_11,x3_12,x3_12_m1,x3_13,x3_13a0,x3_14,x3_15,x3_15_m1,x3_16,x3_16_m1,x3_16a0,x3_17,x3_17_m1,eq_self, hlz', f1b, hs]
          and_intros <;> first | omega | rfl | trivial
      have hza : z = A.length := by omega
      have hlz' : ¬ (z : Int) < A.length := by omega
      by_cases f1 : izF (((runR r).1.mem.getD q default).club != (l.games.getD i default).away) A ((runR r).1.mem.getD q default).person z = true
      · simp (maxSteps := 4000000) +contextual (disch := first | omega | exact qdb_ok (by kernel_rfl) | exact okb_ok (by kernel_rfl)) only [bw1,bw2,bw3,bw4,bw5,bw6,bw7,bc0,bc1,bc2,bc3,bc4,bc5,bc6,bc7,bb0,setPs,AV.owns,AV.datF,AV.frz,AV.cpy,ifV,isEqB,nilV,nilX,AV.isNilS,AV.isNoRows,wk,dclo,datOf,binIs,addF,AV.isPtr,idxV,AV.isSl,AV.isSlice,AV.rows,ps,pv,extV,extS,AV.outs,AV.outF,packD,AV.dl,fieldV,fieldS,AV.cells?,AV.upr,AV.menc,AV.one,D.one,Value.oneCell',tagOf,AV.isApp,strV,strS,bolV,bolS,slcV,AV.isSlD,asrtS,AV.dcells,D.cells?,stcV,stcS,leafOk,eqDs,eqD,packA,D.val?,↓reduceIte,reduceCtorEq,Nat.reduceAdd,Nat.reduceSub,Nat.reduceMul,List.reduceReplicate,Nat.reduceLeDiff,Nat.reduceLT,Nat.reduceBEq,Nat.reduceEqDiff,Int.reduceNeg,Int.reduceEq,Int.reduceLE,Int.reduceLT,tfb,ctz3,x3_11,x3_12,x3_12_m1,x3_13,x3_13a0,x3_14,x3_15,x3_15_m1,x3_16,x3_16_m1,x3_16a0,x3_17,x3_17_m1,eq_self, hlz', f1]
        and_intros <;> first | omega | rfl | trivial
      · have f1b : izF (((runR r).1.mem.getD q default).club != (l.games.getD i default).away) A ((runR r).1.mem.getD q default).person z = false := by simpa using f1
        have hx16 := @hx16a ((runR r).1.mem.getD q default).person
        rw [decide_eq_false (hno ((runR r).1.mem.getD q default).person hmr (izl (by rw [← hza]; exact f1b)))] at hx16
        rw [show List.map ic [((runR r).1.mem.getD q default).person] = [[.v (.int .i64 ((runR r).1.mem.getD q default).person)]] from rfl] at hx16
        simp (maxSteps := 4000000) +contextual (disch := first | omega | exact qdb_ok (by kernel_rfl) | exact okb_ok (by kernel_rfl)) only [bw1,bw2,bw3,bw4,bw5,bw6,bw7,bc0,bc1,bc2,bc3,bc4,bc5,bc6,bc7,bb0,setPs,AV.owns,AV.datF,AV.frz,AV.cpy,ifV,isEqB,nilV,nilX,AV.isNilS,AV.isNoRows,wk,dclo,datOf,binIs,addF,AV.isPtr,idxV,AV.isSl,AV.isSlice,AV.rows,ps,pv,extV,extS,AV.outs,AV.outF,packD,AV.dl,fieldV,fieldS,AV.cells?,AV.upr,AV.menc,AV.one,D.one,Value.oneCell',tagOf,AV.isApp,strV,strS,bolV,bolS,slcV,AV.isSlD,asrtS,AV.dcells,D.cells?,stcV,stcS,leafOk,eqDs,eqD,packA,D.val?,↓reduceIte,reduceCtorEq,Nat.reduceAdd,Nat.reduceSub,Nat.reduceMul,List.reduceReplicate,Nat.reduceLeDiff,Nat.reduceLT,Nat.reduceBEq,Nat.reduceEqDiff,Int.reduceNeg,Int.reduceEq,Int.reduceLE,Int.reduceLT,tfb,ctz3,x3_11,x3_12,x3_12_m1,x3_13,x3_13a0,x3_14,x3_15,x3_15_m1,x3_16,x3_16_m1,x3_16a0,x3_17,x3_17_m1,eq_self, hlz', f1b, hx16, hshs, hrlen, fl_b]
        and_intros <;> first | omega | rfl | trivial
end Go.Proofs.Ytohkngiflfkjjaa
