/- A part of the proof that the last text ends: what functions of the program do, told by plain data. -/
import Derived.Test.YtohkngiflfkjjaaRV
import Derived.Test.YtohkngiflfkjjaaEc
set_option linter.unusedVariables false
set_option linter.unusedSimpArgs false
namespace Go.Proofs.Ytohkngiflfkjjaa
open Go Go.E Go.Maps
set_option maxRecDepth 100000
set_option maxHeartbeats 16000000
/-! ### What the laws look at, and what the document fixes -/
def smp : List Ev := [⟨1, 0, 7, 2, []⟩, ⟨1, 0, 9, 2, []⟩, ⟨1, 0, 5, 3, []⟩, ⟨2, 1, 7, 2, []⟩, ⟨3, 2, 9, 0, []⟩, ⟨4, 6, 0, 2, []⟩, ⟨5, 4, 9, 0, []⟩]
def smp2 : List Ev := smp ++ [⟨6, 6, 0, 2, [7]⟩]
def w1 : List Int := [1]
def a5 : List Int := [5]
def prs : List Mem := [⟨5, 3, 0, 0, 0⟩, ⟨7, 2, 1, 0, 0⟩, ⟨9, 2, 0, 2, 5⟩]
theorem smp_ok : ShsOk smp := by refine ⟨by decide, ?_⟩; decide
theorem smp2_ok : ShsOk smp2 := by refine ⟨by decide, ?_⟩; decide
theorem play1 : playR smp = (prs, 7, 0) := by kernel_rfl
theorem play2 : playR smp2 = ([], 7, 11) := by kernel_rfl
theorem why1 : whyR smp 7 6 = (w1, 0) := by kernel_rfl
theorem able1 : ableR smp 3 6 = (a5, 0) := by kernel_rfl
theorem back1 : backR smp 9 = ((0, 10), 0) := by kernel_rfl
def manyB (l : List Ev) (m : Int) : Bool := (l.take 261).any (fun x => decide (24 < (x.sheet.length : Int))) || ((decide (m < (l.length : Int)) && decide ((l.length : Int) ≤ 256)) || decide (260 < (l.length : Int)))
theorem many_no {l : List Ev} {m : Int} (h : ¬ manyB l m = true) : ShsOk l ∧ l.length ≤ 260 ∧ (∀ x ∈ l, x.sheet.length ≤ 24) ∧ ((l.length : Int) ≤ m ∨ 256 < l.length) := by
  unfold manyB at h
  simp only [Bool.or_eq_true, Bool.and_eq_true, decide_eq_true_eq, not_or, not_and, List.any_eq_true, not_exists] at h
  obtain ⟨h1, h2, h3⟩ := h
  have hl : l.length ≤ 260 := by omega
  have hs : ∀ x ∈ l, x.sheet.length ≤ 24 := fun x hx => by
    have := h1 x (by rw [List.take_of_length_le (by omega)]; exact hx)
    omega
  exact ⟨⟨by omega, fun x hx => by have := hs x hx; omega⟩, hl, hs, by omega⟩
theorem many_step {l : List Ev} {i : Nat} (h : i < l.length) (hc : ¬ 24 < ((l.getD i default).sheet.length : Int)) (h0 : (l.take i).any (fun x => decide (24 < (x.sheet.length : Int))) = false) : (l.take (i + 1)).any (fun x => decide (24 < (x.sheet.length : Int))) = false := by
  rw [take_succ h, List.any_append, h0]
  simp only [List.any_cons, List.any_nil, decide_eq_false hc, Bool.or_false]
theorem many_yes {l : List Ev} {i : Nat} {m : Int} (h : i < l.length) (h2 : i < 261) (hc : 24 < ((l.getD i default).sheet.length : Int)) : manyB l m = true := by
  unfold manyB
  rw [Bool.or_eq_true]
  left
  rw [List.any_eq_true]
  refine ⟨l.getD i default, ?_, decide_eq_true hc⟩
  rw [at_lt h]
  exact List.mem_iff_getElem.2 ⟨i, by simp; omega, by simp⟩
theorem many_end {l : List Ev} {i : Nat} {m : Int} (h : l.length ≤ i ∨ 261 ≤ i) (h0 : (l.take i).any (fun x => decide (24 < (x.sheet.length : Int))) = false) : manyB l m = ((decide (m < (l.length : Int)) && decide ((l.length : Int) ≤ 256)) || decide (260 < (l.length : Int))) := by
  unfold manyB
  have : (l.take 261).any (fun x => decide (24 < (x.sheet.length : Int))) = false := by
    rw [List.any_eq_false] at h0 ⊢
    intro x hx
    refine h0 x ?_
    rcases h with h | h
    · rw [List.take_of_length_le h]; exact List.mem_of_mem_take hx
    · exact (List.take_prefix_take_left h).subset hx
  rw [this, Bool.false_or]
def evN (a b c d : Int) : List D := [.i a, .i b, .i c, .i d, .v (.slice none 0 0)]
theorem evN_deep {a b c d : Int} : NilDs (evN a b c d) (Ev.c ⟨a, b, c, d, []⟩) := .cons (.refl _) (.cons (.refl _) (.cons (.refl _) (.cons (.refl _) (.cons (.nil 1) (.refl _)))))
def O36 : Nat → Sch := fun id => .done
theorem ho36 : Try.f36.body.map (okO O36) = some true := by kernel_rfl
def Cf36 : Nat → List AV → (AV → List AV → Sto → Prop) → Kt → List AV → Sto → Prop := fun f args K Q e s => match f with
  | _ => False
def Ct36 : CT := { f := Cf36, y := noYld, z := fun d => false }
theorem ctz36 {d : Nat} : CT.z Ct36 d = (false) := id rfl
theorem Ct36_ok : Ct36.ok Try.prog := ok_of_f (fun f args K Q e s h => by
  have h : Cf36 f args K Q e s := h
  unfold Cf36 at h; split at h
  · exact h.elim) (fun _ _ _ _ _ _ _ _ _ h => h)
theorem c36 : callable Try.prog 36 = true := by kernel_rfl
theorem pf36  : PFo Try.prog 36 30 5 [] (fun zz => zz = (smp.map Ev.c)) := by
  have hdeep : NilRs [evN 1 0 7 2, evN 1 0 9 2, evN 1 0 5 3, evN 2 1 7 2, evN 3 2 9 0, evN 4 6 0 2, evN 5 4 9 0] (smp.map Ev.c) := .cons evN_deep (.cons evN_deep (.cons evN_deep (.cons evN_deep (.cons evN_deep (.cons evN_deep (.cons evN_deep (.refl _)))))))
  refine PFo_deep hdeep ?_
  refine PFo_start (O := O36) Ct36_ok hmix ho36 Try.func36 c36 rfl Try.ntmps36 Try.results36 ?_
  simp (maxSteps := 4000000) +contextual (disch := first | omega | exact qdb_ok (by kernel_rfl) | exact okb_ok (by kernel_rfl)) only [bw1,bw2,bw3,bw4,bw5,bw6,bw7,bc0,bc1,bc2,bc3,bc4,bc5,bc6,bc7,bb0,setPs,AV.owns,AV.datF,AV.frz,AV.cpy,ifV,isEqB,nilV,nilX,AV.isNilS,AV.isNoRows,wk,dclo,datOf,binIs,addF,AV.isPtr,idxV,AV.isSl,AV.isSlice,AV.rows,ps,pv,extV,extS,AV.outs,AV.outF,packD,AV.dl,fieldV,fieldS,AV.cells?,AV.upr,AV.menc,AV.one,D.one,Value.oneCell',tagOf,AV.isApp,strV,strS,bolV,bolS,slcV,AV.isSlD,asrtS,AV.dcells,D.cells?,stcV,stcS,leafOk,eqDs,eqD,packA,D.val?,↓reduceIte,reduceCtorEq,Nat.reduceAdd,Nat.reduceSub,Nat.reduceMul,List.reduceReplicate,Nat.reduceLeDiff,Nat.reduceLT,Nat.reduceBEq,Nat.reduceEqDiff,Int.reduceNeg,Int.reduceEq,Int.reduceLE,Int.reduceLT,tfb,p_bnsl,nl_nil,nl_sl,nl_own,nlR_e,nlR_n,ro_n,ro_r,qd_Ro,ox_1,or_own,or_nil,ctz36,eq_self]
  exact ⟨rfl, rfl, rfl, rfl, rfl, rfl, rfl⟩
def ent36 (args : List AV) (K : AV → List AV → Sto → Prop) (e : List AV) (s : Sto) : Prop := ento (α := Unit) 36009 30 5 (fun aa => []) (fun aa => True) (fun aa => (smp.map Ev.c)) args K e s
theorem ent36_ok {args : List AV} {K : AV → List AV → Sto → Prop} {Q : Kt} {e : List AV} {s : Sto} (h : ent36 args K e s) : pcall Try.prog 36 args K Q e s := ento_ok (by decide) (fun aa h => pf36 ) h
theorem eq36  {KK : AV → List AV → Sto → Prop} {ee : List AV} {ss : Sto} : ent36 [] KK ee ss = (KK (.own 36009 30 5 (smp.map Ev.c)) (ee.map (AV.kill 36009)) (ss.kill 36009)) := by
  unfold ent36
  exact Eq.trans (ento_iff () (by intro b h; cases b; rfl) rfl) (by simp)
def O18 : Nat → Sch := fun id => .done
theorem ho18 : Try.f18.body.map (okO O18) = some true := by kernel_rfl
def Cf18 : Nat → List AV → (AV → List AV → Sto → Prop) → Kt → List AV → Sto → Prop := fun f args K Q e s => match f with
  | _ => False
def Ct18 : CT := { f := Cf18, y := noYld, z := fun d => false }
theorem ctz18 {d : Nat} : CT.z Ct18 d = (false) := id rfl
theorem Ct18_ok : Ct18.ok Try.prog := ok_of_f (fun f args K Q e s h => by
  have h : Cf18 f args K Q e s := h
  unfold Cf18 at h; split at h
  · exact h.elim) (fun _ _ _ _ _ _ _ _ _ h => h)
theorem c18 : callable Try.prog 18 = true := by kernel_rfl
theorem pf18 (l : List Ev) (m : Int) : PF Try.prog 18 [.sl 5 (l.map Ev.c), .i m] (fun zz => zz = .ret (.b (manyB l m))) := by
  refine PF_nil (PF_start (O := O18) Ct18_ok hmix ho18 Try.func18 c18 rfl Try.ntmps18 Try.results18 ?_)
  simp (maxSteps := 4000000) +contextual (disch := first | omega | exact qdb_ok (by kernel_rfl) | exact okb_ok (by kernel_rfl)) only [bw1,bw2,bw3,bw4,bw5,bw6,bw7,bc0,bc1,bc2,bc3,bc4,bc5,bc6,bc7,bb0,setPs,AV.owns,AV.datF,AV.frz,AV.cpy,ifV,isEqB,nilV,nilX,AV.isNilS,AV.isNoRows,wk,dclo,datOf,binIs,addF,AV.isPtr,idxV,AV.isSl,AV.isSlice,AV.rows,ps,pv,extV,extS,AV.outs,AV.outF,packD,AV.dl,fieldV,fieldS,AV.cells?,AV.upr,AV.menc,AV.one,D.one,Value.oneCell',tagOf,AV.isApp,strV,strS,bolV,bolS,slcV,AV.isSlD,asrtS,AV.dcells,D.cells?,stcV,stcS,leafOk,eqDs,eqD,packA,D.val?,↓reduceIte,reduceCtorEq,Nat.reduceAdd,Nat.reduceSub,Nat.reduceMul,List.reduceReplicate,Nat.reduceLeDiff,Nat.reduceLT,Nat.reduceBEq,Nat.reduceEqDiff,Int.reduceNeg,Int.reduceEq,Int.reduceLE,Int.reduceLT,tfb,p_bnsl,nl_nil,nl_sl,nl_own,nlR_e,nlR_n,ro_n,ro_r,qd_Ro,ox_1,or_own,or_nil,ctz18]
  refine loop_s (O := O18) (tb := 0) Ct18_ok hmix (by kernel_rfl) (σ := Nat) (fun i => [(5, .i i)]) (fun i => i ≤ l.length ∧ i ≤ 261 ∧ (l.take i).any (fun x => decide (24 < (x.sheet.length : Int))) = false) (fun i => l.length - i) (fun i => i + 1) 0 ⟨by omega, by omega, by simp⟩ ?_ ?_
  · simp (maxSteps := 4000000) +contextual (disch := first | omega | exact qdb_ok (by kernel_rfl) | exact okb_ok (by kernel_rfl)) only [bw1,bw2,bw3,bw4,bw5,bw6,bw7,bc0,bc1,bc2,bc3,bc4,bc5,bc6,bc7,bb0,setPs,AV.owns,AV.datF,AV.frz,AV.cpy,ifV,isEqB,nilV,nilX,AV.isNilS,AV.isNoRows,wk,dclo,datOf,binIs,addF,AV.isPtr,idxV,AV.isSl,AV.isSlice,AV.rows,ps,pv,extV,extS,AV.outs,AV.outF,packD,AV.dl,fieldV,fieldS,AV.cells?,AV.upr,AV.menc,AV.one,D.one,Value.oneCell',tagOf,AV.isApp,strV,strS,bolV,bolS,slcV,AV.isSlD,asrtS,AV.dcells,D.cells?,stcV,stcS,leafOk,eqDs,eqD,packA,D.val?,↓reduceIte,reduceCtorEq,Nat.reduceAdd,Nat.reduceSub,Nat.reduceMul,List.reduceReplicate,Nat.reduceLeDiff,Nat.reduceLT,Nat.reduceBEq,Nat.reduceEqDiff,Int.reduceNeg,Int.reduceEq,Int.reduceLE,Int.reduceLT,tfb,p_bnsl,nl_nil,nl_sl,nl_own,nlR_e,nlR_n,ro_n,ro_r,qd_Ro,ox_1,or_own,or_nil,ctz18]
  rintro i ⟨h1, h2, h3⟩
  by_cases c1 : i < l.length
  case neg =>
    have c1' : ¬ (i : Int) < l.length := by omega
    rw [many_end (m := m) (i := i) (by omega) h3]
    simp (maxSteps := 4000000) +contextual (disch := first | omega | exact qdb_ok (by kernel_rfl) | exact okb_ok (by kernel_rfl)) only [bw1,bw2,bw3,bw4,bw5,bw6,bw7,bc0,bc1,bc2,bc3,bc4,bc5,bc6,bc7,bb0,setPs,AV.owns,AV.datF,AV.frz,AV.cpy,ifV,isEqB,nilV,nilX,AV.isNilS,AV.isNoRows,wk,dclo,datOf,binIs,addF,AV.isPtr,idxV,AV.isSl,AV.isSlice,AV.rows,ps,pv,extV,extS,AV.outs,AV.outF,packD,AV.dl,fieldV,fieldS,AV.cells?,AV.upr,AV.menc,AV.one,D.one,Value.oneCell',tagOf,AV.isApp,strV,strS,bolV,bolS,slcV,AV.isSlD,asrtS,AV.dcells,D.cells?,stcV,stcS,leafOk,eqDs,eqD,packA,D.val?,↓reduceIte,reduceCtorEq,Nat.reduceAdd,Nat.reduceSub,Nat.reduceMul,List.reduceReplicate,Nat.reduceLeDiff,Nat.reduceLT,Nat.reduceBEq,Nat.reduceEqDiff,Int.reduceNeg,Int.reduceEq,Int.reduceLE,Int.reduceLT,tfb,p_bnsl,nl_nil,nl_sl,nl_own,nlR_e,nlR_n,ro_n,ro_r,qd_Ro,ox_1,or_own,or_nil,ctz18,c1']
    by_cases q1 : m < (l.length : Int) <;> by_cases q2 : (l.length : Int) ≤ 256 <;> simp [q1, q2]
  have c1' : (i : Int) < l.length := by omega
  by_cases c2 : i < 261
  case neg =>
    have c2' : ¬ (i : Int) < 261 := by omega
    rw [many_end (m := m) (i := i) (by omega) h3]
    simp (maxSteps := 4000000) +contextual (disch := first | omega | exact qdb_ok (by kernel_rfl) | exact okb_ok (by kernel_rfl)) only [bw1,bw2,bw3,bw4,bw5,bw6,bw7,bc0,bc1,bc2,bc3,bc4,bc5,bc6,bc7,bb0,setPs,AV.owns,AV.datF,AV.frz,AV.cpy,ifV,isEqB,nilV,nilX,AV.isNilS,AV.isNoRows,wk,dclo,datOf,binIs,addF,AV.isPtr,idxV,AV.isSl,AV.isSlice,AV.rows,ps,pv,extV,extS,AV.outs,AV.outF,packD,AV.dl,fieldV,fieldS,AV.cells?,AV.upr,AV.menc,AV.one,D.one,Value.oneCell',tagOf,AV.isApp,strV,strS,bolV,bolS,slcV,AV.isSlD,asrtS,AV.dcells,D.cells?,stcV,stcS,leafOk,eqDs,eqD,packA,D.val?,↓reduceIte,reduceCtorEq,Nat.reduceAdd,Nat.reduceSub,Nat.reduceMul,List.reduceReplicate,Nat.reduceLeDiff,Nat.reduceLT,Nat.reduceBEq,Nat.reduceEqDiff,Int.reduceNeg,Int.reduceEq,Int.reduceLE,Int.reduceLT,tfb,p_bnsl,nl_nil,nl_sl,nl_own,nlR_e,nlR_n,ro_n,ro_r,qd_Ro,ox_1,or_own,or_nil,ctz18,c1', c2']
    by_cases q1 : m < (l.length : Int) <;> by_cases q2 : (l.length : Int) ≤ 256 <;> simp [q1, q2]
  have c2' : (i : Int) < 261 := by omega
  by_cases c3 : 24 < ((l.getD i default).sheet.length : Int)
  · rw [many_yes (m := m) c1 c2 c3]
    simp (maxSteps := 4000000) +contextual (disch := first | omega | exact qdb_ok (by kernel_rfl) | exact okb_ok (by kernel_rfl)) only [bw1,bw2,bw3,bw4,bw5,bw6,bw7,bc0,bc1,bc2,bc3,bc4,bc5,bc6,bc7,bb0,setPs,AV.owns,AV.datF,AV.frz,AV.cpy,ifV,isEqB,nilV,nilX,AV.isNilS,AV.isNoRows,wk,dclo,datOf,binIs,addF,AV.isPtr,idxV,AV.isSl,AV.isSlice,AV.rows,ps,pv,extV,extS,AV.outs,AV.outF,packD,AV.dl,fieldV,fieldS,AV.cells?,AV.upr,AV.menc,AV.one,D.one,Value.oneCell',tagOf,AV.isApp,strV,strS,bolV,bolS,slcV,AV.isSlD,asrtS,AV.dcells,D.cells?,stcV,stcS,leafOk,eqDs,eqD,packA,D.val?,↓reduceIte,reduceCtorEq,Nat.reduceAdd,Nat.reduceSub,Nat.reduceMul,List.reduceReplicate,Nat.reduceLeDiff,Nat.reduceLT,Nat.reduceBEq,Nat.reduceEqDiff,Int.reduceNeg,Int.reduceEq,Int.reduceLE,Int.reduceLT,tfb,p_bnsl,nl_nil,nl_sl,nl_own,nlR_e,nlR_n,ro_n,ro_r,qd_Ro,ox_1,or_own,or_nil,ctz18,c1', c2', c3]
    omega
  · have hn := many_step c1 c3 h3
    simp (maxSteps := 4000000) +contextual (disch := first | omega | exact qdb_ok (by kernel_rfl) | exact okb_ok (by kernel_rfl)) only [bw1,bw2,bw3,bw4,bw5,bw6,bw7,bc0,bc1,bc2,bc3,bc4,bc5,bc6,bc7,bb0,setPs,AV.owns,AV.datF,AV.frz,AV.cpy,ifV,isEqB,nilV,nilX,AV.isNilS,AV.isNoRows,wk,dclo,datOf,binIs,addF,AV.isPtr,idxV,AV.isSl,AV.isSlice,AV.rows,ps,pv,extV,extS,AV.outs,AV.outF,packD,AV.dl,fieldV,fieldS,AV.cells?,AV.upr,AV.menc,AV.one,D.one,Value.oneCell',tagOf,AV.isApp,strV,strS,bolV,bolS,slcV,AV.isSlD,asrtS,AV.dcells,D.cells?,stcV,stcS,leafOk,eqDs,eqD,packA,D.val?,↓reduceIte,reduceCtorEq,Nat.reduceAdd,Nat.reduceSub,Nat.reduceMul,List.reduceReplicate,Nat.reduceLeDiff,Nat.reduceLT,Nat.reduceBEq,Nat.reduceEqDiff,Int.reduceNeg,Int.reduceEq,Int.reduceLE,Int.reduceLT,tfb,p_bnsl,nl_nil,nl_sl,nl_own,nlR_e,nlR_n,ro_n,ro_r,qd_Ro,ox_1,or_own,or_nil,ctz18,c1', c2', c3]
    exact ⟨by omega, ⟨by omega, by omega, hn⟩, by omega⟩
theorem smp2_fold : smp.map Ev.c ++ [[.v (.int .i64 6), .v (.int .i64 6), .v (.int .i64 0), .v (.int .i64 2), .sl 1 [[.v (.int .i64 7)]]]] = smp2.map Ev.c := by unfold smp2; rw [List.map_append]; rfl
theorem prs_fold : ([[.v (.int .i64 5), .v (.int .i64 3), .v (.int .i64 0), .v (.int .i64 0), .v (.int .i64 0)], [.v (.int .i64 7), .v (.int .i64 2), .v (.int .i64 1), .v (.int .i64 0), .v (.int .i64 0)], [.v (.int .i64 9), .v (.int .i64 2), .v (.int .i64 0), .v (.int .i64 2), .v (.int .i64 5)]] : List (List D)) = prs.map Mem.c := id rfl
theorem w1_fold : ([[.v (.int .i64 1)]] : List (List D)) = w1.map ic := id rfl
theorem a5_fold : ([[.v (.int .i64 5)]] : List (List D)) = a5.map ic := id rfl
theorem w1_len : w1.length = 1 := id rfl
theorem a5_len : a5.length = 1 := id rfl
theorem fl_b : (D.b true).flat = true := id rfl
theorem smp_len : smp.length = 7 := id rfl
theorem prs_len : prs.length = 3 := id rfl
def ent18 (args : List AV) (K : AV → List AV → Sto → Prop) (e : List AV) (s : Sto) : Prop := ent (α := (List Ev) × (Int)) (fun aa => [.sl 5 (aa.1.map Ev.c), .i aa.2]) (fun aa => True) (fun aa => .b (manyB aa.1 aa.2)) args K e s
theorem ent18_ok {args : List AV} {K : AV → List AV → Sto → Prop} {Q : Kt} {e : List AV} {s : Sto} (h : ent18 args K e s) : pcall Try.prog 18 args K Q e s := ent_ok (fun aa h => pf18 aa.1 aa.2) h
theorem eq18 {l : List Ev} {m : Int} {KK : AV → List AV → Sto → Prop} {ee : List AV} {ss : Sto} : ent18 [.d (.sl 5 (l.map Ev.c)), .d (.i m)] KK ee ss = (KK (.d (.b (manyB l m))) ee ss) := by
  unfold ent18; rw [ent_iff (l, m) (by intro b h; simpa [Prod.ext_iff, and_assoc, Int.ofNat_inj, ints_inj, evs_inj, mems_inj, ev_inj, mem_inj, st_inj] using h) rfl]; simp
theorem eqo18 {l : List Ev} {m : Int} {g1 el1 : Nat} {KK : AV → List AV → Sto → Prop} {ee : List AV} {ss : Sto} : ent18 [.own g1 el1 5 (l.map Ev.c), .d (.i m)] KK ee ss = ((.b (manyB l m) : D).flat = true ∧ KK (.d (.b (manyB l m))) ee ss) := by
  unfold ent18; rw [ent_iff (l, m) (by intro b h; simpa [Prod.ext_iff, and_assoc, Int.ofNat_inj, ints_inj, evs_inj, mems_inj, ev_inj, mem_inj, st_inj] using h) rfl]; simp
def O19 : Nat → Sch := fun id => .done
theorem ho19 : Try.f19.body.map (okO O19) = some true := by kernel_rfl
def Cf19 : Nat → List AV → (AV → List AV → Sto → Prop) → Kt → List AV → Sto → Prop := fun f args K Q e s => match f with
  | 12 => ent12 args K e s
  | 15 => ent15 args K e s
  | 17 => ent17 args K e s
  | 21 => ent21 args K e s
  | 22 => ent22 args K e s
  | 26 => ent26 args K e s
  | 36 => ent36 args K e s
  | _ => False
def Ct19 : CT := { f := Cf19, y := noYld, z := fun d => d == 26 || d == 27 }
theorem ctz19 {d : Nat} : CT.z Ct19 d = (d == 26 || d == 27) := id rfl
theorem Ct19_ok : Ct19.ok Try.prog := ok_of_f (fun f args K Q e s h => by
  have h : Cf19 f args K Q e s := h
  unfold Cf19 at h; split at h
  · exact ent12_ok h
  · exact ent15_ok h
  · exact ent17_ok h
  · exact ent21_ok h
  · exact ent22_ok h
  · exact ent26_ok h
  · exact ent36_ok h
  · exact h.elim) (fun _ _ _ _ _ _ _ _ _ h => h)
theorem x19_12 {l : List Ev} {KK : AV → List AV → Sto → Prop} {QQ : Kt} {ii : At KK} {jj : At QQ} {ee : List AV} {ss : Sto} : xC Ct19 12 [.d (.sl 5 (l.map Ev.c))] KK QQ ii jj ee ss = ((ShsOk l) ∧ KK (.d (.tup [.sl 5 ((playR l).1.map Mem.c), .i (playR l).2.1, .i (playR l).2.2])) ee ss) := eq12
theorem x19_12_m1 {l : List Ev} {g1 el1 : Nat} {KK : AV → List AV → Sto → Prop} {QQ : Kt} {ii : At KK} {jj : At QQ} {ee : List AV} {ss : Sto} : xC Ct19 12 [.own g1 el1 5 (l.map Ev.c)] KK QQ ii jj ee ss = ((ShsOk l) ∧ KK (.d (.tup [.sl 5 ((playR l).1.map Mem.c), .i (playR l).2.1, .i (playR l).2.2])) ee ss) := eqo12
theorem x19_15 {l : List Ev} {c : Int} {d : Int} {KK : AV → List AV → Sto → Prop} {QQ : Kt} {ii : At KK} {jj : At QQ} {ee : List AV} {ss : Sto} : xC Ct19 15 [.d (.sl 5 (l.map Ev.c)), .d (.i c), .d (.i d)] KK QQ ii jj ee ss = ((ShsOk l) ∧ KK (.d (.tup [.sl 1 ((ableR l c d).1.map ic), .i (ableR l c d).2])) ee ss) := eq15
theorem x19_15_m1 {l : List Ev} {c : Int} {d : Int} {g1 el1 : Nat} {KK : AV → List AV → Sto → Prop} {QQ : Kt} {ii : At KK} {jj : At QQ} {ee : List AV} {ss : Sto} : xC Ct19 15 [.own g1 el1 5 (l.map Ev.c), .d (.i c), .d (.i d)] KK QQ ii jj ee ss = ((ShsOk l) ∧ KK (.d (.tup [.sl 1 ((ableR l c d).1.map ic), .i (ableR l c d).2])) ee ss) := eqo15
theorem x19_17 {l : List Ev} {p : Int} {KK : AV → List AV → Sto → Prop} {QQ : Kt} {ii : At KK} {jj : At QQ} {ee : List AV} {ss : Sto} : xC Ct19 17 [.d (.sl 5 (l.map Ev.c)), .d (.i p)] KK QQ ii jj ee ss = ((ShsOk l ∧ i64 p) ∧ KK (.d (.tup [.i (backR l p).1.1, .i (backR l p).1.2, .i (backR l p).2])) ee ss) := eq17
theorem x19_17_m1 {l : List Ev} {p : Int} {g1 el1 : Nat} {KK : AV → List AV → Sto → Prop} {QQ : Kt} {ii : At KK} {jj : At QQ} {ee : List AV} {ss : Sto} : xC Ct19 17 [.own g1 el1 5 (l.map Ev.c), .d (.i p)] KK QQ ii jj ee ss = ((ShsOk l ∧ i64 p) ∧ (.tup [.i (backR l p).1.1, .i (backR l p).1.2, .i (backR l p).2] : D).flat = true ∧ KK (.d (.tup [.i (backR l p).1.1, .i (backR l p).1.2, .i (backR l p).2])) ee ss) := eqo17
theorem x19_21 {a : List Mem} {b : List Mem} {KK : AV → List AV → Sto → Prop} {QQ : Kt} {ii : At KK} {jj : At QQ} {ee : List AV} {ss : Sto} : xC Ct19 21 [.d (.sl 5 (a.map Mem.c)), .d (.sl 5 (b.map Mem.c))] KK QQ ii jj ee ss = ((a.length ≤ 1000000) ∧ KK (.d (.b (decide (a = b)))) ee ss) := eq21
theorem x19_21_m1 {a : List Mem} {b : List Mem} {g1 el1 : Nat} {KK : AV → List AV → Sto → Prop} {QQ : Kt} {ii : At KK} {jj : At QQ} {ee : List AV} {ss : Sto} : xC Ct19 21 [.own g1 el1 5 (a.map Mem.c), .d (.sl 5 (b.map Mem.c))] KK QQ ii jj ee ss = ((a.length ≤ 1000000) ∧ (.b (decide (a = b)) : D).flat = true ∧ KK (.d (.b (decide (a = b)))) ee ss) := by
  show ent21 _ _ _ _ = _
  unfold ent21; rw [ent_iff (a, b) (by intro b h; simpa [Prod.ext_iff, and_assoc, Int.ofNat_inj, ints_inj, evs_inj, mems_inj, ev_inj, mem_inj, st_inj] using h) rfl]; simp
theorem x19_21_m2 {a : List Mem} {b : List Mem} {g1 el1 : Nat} {KK : AV → List AV → Sto → Prop} {QQ : Kt} {ii : At KK} {jj : At QQ} {ee : List AV} {ss : Sto} : xC Ct19 21 [.d (.sl 5 (a.map Mem.c)), .own g1 el1 5 (b.map Mem.c)] KK QQ ii jj ee ss = ((a.length ≤ 1000000) ∧ (.b (decide (a = b)) : D).flat = true ∧ KK (.d (.b (decide (a = b)))) ee ss) := by
  show ent21 _ _ _ _ = _
  unfold ent21; rw [ent_iff (a, b) (by intro b h; simpa [Prod.ext_iff, and_assoc, Int.ofNat_inj, ints_inj, evs_inj, mems_inj, ev_inj, mem_inj, st_inj] using h) rfl]; simp
theorem x19_21_m3 {a : List Mem} {b : List Mem} {g1 el1 : Nat} {g2 el2 : Nat} {KK : AV → List AV → Sto → Prop} {QQ : Kt} {ii : At KK} {jj : At QQ} {ee : List AV} {ss : Sto} : xC Ct19 21 [.own g1 el1 5 (a.map Mem.c), .own g2 el2 5 (b.map Mem.c)] KK QQ ii jj ee ss = ((a.length ≤ 1000000) ∧ (.b (decide (a = b)) : D).flat = true ∧ KK (.d (.b (decide (a = b)))) ee ss) := eqo21
theorem x19_22 {l : List Ev} {p : Int} {d : Int} {KK : AV → List AV → Sto → Prop} {QQ : Kt} {ii : At KK} {jj : At QQ} {ee : List AV} {ss : Sto} : xC Ct19 22 [.d (.sl 5 (l.map Ev.c)), .d (.i p), .d (.i d)] KK QQ ii jj ee ss = ((ShsOk l ∧ i64 p) ∧ KK (.d (.tup [.sl 1 ((whyR l p d).1.map ic), .i (whyR l p d).2])) ee ss) := eq22
theorem x19_22_m1 {l : List Ev} {p : Int} {d : Int} {g1 el1 : Nat} {KK : AV → List AV → Sto → Prop} {QQ : Kt} {ii : At KK} {jj : At QQ} {ee : List AV} {ss : Sto} : xC Ct19 22 [.own g1 el1 5 (l.map Ev.c), .d (.i p), .d (.i d)] KK QQ ii jj ee ss = ((ShsOk l ∧ i64 p) ∧ KK (.d (.tup [.sl 1 ((whyR l p d).1.map ic), .i (whyR l p d).2])) ee ss) := eqo22
theorem x19_26 {a : List Int} {b : List Int} {KK : AV → List AV → Sto → Prop} {QQ : Kt} {ii : At KK} {jj : At QQ} {ee : List AV} {ss : Sto} : xC Ct19 26 [.d (.sl 1 (a.map ic)), .d (.sl 1 (b.map ic))] KK QQ ii jj ee ss = ((a.length ≤ 1000000) ∧ KK (.d (.b (decide (a = b)))) ee ss) := eq26
theorem x19_26_m1 {a : List Int} {b : List Int} {g1 el1 : Nat} {KK : AV → List AV → Sto → Prop} {QQ : Kt} {ii : At KK} {jj : At QQ} {ee : List AV} {ss : Sto} : xC Ct19 26 [.own g1 el1 1 (a.map ic), .d (.sl 1 (b.map ic))] KK QQ ii jj ee ss = ((a.length ≤ 1000000) ∧ (.b (decide (a = b)) : D).flat = true ∧ KK (.d (.b (decide (a = b)))) ee ss) := by
  show ent26 _ _ _ _ = _
  unfold ent26; rw [ent_iff (a, b) (by intro b h; simpa [Prod.ext_iff, and_assoc, Int.ofNat_inj, ints_inj, evs_inj, mems_inj, ev_inj, mem_inj, st_inj] using h) rfl]; simp
theorem x19_26_m2 {a : List Int} {b : List Int} {g1 el1 : Nat} {KK : AV → List AV → Sto → Prop} {QQ : Kt} {ii : At KK} {jj : At QQ} {ee : List AV} {ss : Sto} : xC Ct19 26 [.d (.sl 1 (a.map ic)), .own g1 el1 1 (b.map ic)] KK QQ ii jj ee ss = ((a.length ≤ 1000000) ∧ (.b (decide (a = b)) : D).flat = true ∧ KK (.d (.b (decide (a = b)))) ee ss) := by
  show ent26 _ _ _ _ = _
  unfold ent26; rw [ent_iff (a, b) (by intro b h; simpa [Prod.ext_iff, and_assoc, Int.ofNat_inj, ints_inj, evs_inj, mems_inj, ev_inj, mem_inj, st_inj] using h) rfl]; simp
theorem x19_26_m3 {a : List Int} {b : List Int} {g1 el1 : Nat} {g2 el2 : Nat} {KK : AV → List AV → Sto → Prop} {QQ : Kt} {ii : At KK} {jj : At QQ} {ee : List AV} {ss : Sto} : xC Ct19 26 [.own g1 el1 1 (a.map ic), .own g2 el2 1 (b.map ic)] KK QQ ii jj ee ss = ((a.length ≤ 1000000) ∧ (.b (decide (a = b)) : D).flat = true ∧ KK (.d (.b (decide (a = b)))) ee ss) := eqo26
theorem x19_36  {KK : AV → List AV → Sto → Prop} {QQ : Kt} {ii : At KK} {jj : At QQ} {ee : List AV} {ss : Sto} : xC Ct19 36 [] KK QQ ii jj ee ss = (KK (.own 36009 30 5 (smp.map Ev.c)) (ee.map (AV.kill 36009)) (ss.kill 36009)) := eq36
theorem c19 : callable Try.prog 19 = true := by kernel_rfl
theorem pf19  : PF Try.prog 19 [] (fun zz => zz = .ret (.b true)) := by
  have i7 : i64 7 := by unfold i64; omega
  have i9 : i64 9 := by unfold i64; omega
  have hs := smp_ok
  have hs2 := smp2_ok
  refine PF_nil (PF_start (O := O19) Ct19_ok hmix ho19 Try.func19 c19 rfl Try.ntmps19 Try.results19 ?_)
  simp (maxSteps := 4000000) +contextual (disch := first | omega | exact qdb_ok (by kernel_rfl) | exact okb_ok (by kernel_rfl)) only [bw1,bw2,bw3,bw4,bw5,bw6,bw7,bc0,bc1,bc2,bc3,bc4,bc5,bc6,bc7,bb0,setPs,AV.owns,AV.datF,AV.frz,AV.cpy,ifV,isEqB,nilV,nilX,AV.isNilS,AV.isNoRows,wk,dclo,datOf,binIs,addF,AV.isPtr,idxV,AV.isSl,AV.isSlice,AV.rows,ps,pv,extV,extS,AV.outs,AV.outF,packD,AV.dl,fieldV,fieldS,AV.cells?,AV.upr,AV.menc,AV.one,D.one,Value.oneCell',tagOf,AV.isApp,strV,strS,bolV,bolS,slcV,AV.isSlD,asrtS,AV.dcells,D.cells?,stcV,stcS,leafOk,eqDs,eqD,packA,D.val?,↓reduceIte,reduceCtorEq,Nat.reduceAdd,Nat.reduceSub,Nat.reduceMul,List.reduceReplicate,Nat.reduceLeDiff,Nat.reduceLT,Nat.reduceBEq,Nat.reduceEqDiff,Int.reduceNeg,Int.reduceEq,Int.reduceLE,Int.reduceLT,tfb,p_bnsl,nl_nil,nl_sl,nl_own,nlR_e,nlR_n,ro_n,ro_r,qd_Ro,ox_1,or_own,or_nil,ctz19,x19_12,x19_12_m1,x19_15,x19_15_m1,x19_17,x19_17_m1,x19_21,x19_21_m1,x19_21_m2,x19_21_m3,x19_22,x19_22_m1,x19_26,x19_26_m1,x19_26_m2,x19_26_m3,x19_36,eq_self, smp2_fold, prs_fold, play1, play2, why1, able1, back1, smp_len, prs_len, w1_fold, a5_fold, w1_len, a5_len, fl_b, hs, hs2, i7, i9, bne_self_eq_false, Int.reduceBNe, Int.reduceBEq]
def ent19 (args : List AV) (K : AV → List AV → Sto → Prop) (e : List AV) (s : Sto) : Prop := ent (α := Unit) (fun aa => []) (fun aa => True) (fun aa => .b true) args K e s
theorem ent19_ok {args : List AV} {K : AV → List AV → Sto → Prop} {Q : Kt} {e : List AV} {s : Sto} (h : ent19 args K e s) : pcall Try.prog 19 args K Q e s := ent_ok (fun aa h => pf19 ) h
theorem eq19  {KK : AV → List AV → Sto → Prop} {ee : List AV} {ss : Sto} : ent19 [] KK ee ss = (KK (.d (.b true)) ee ss) := by
  unfold ent19; rw [ent_iff () (by intro b h; cases b; rfl) rfl]; simp
end Go.Proofs.Ytohkngiflfkjjaa
