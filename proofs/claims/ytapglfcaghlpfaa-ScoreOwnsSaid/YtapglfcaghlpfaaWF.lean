/- A part of the proof that the last text ends: what functions of the program do, told by plain data. -/
import Derived.Test.YtapglfcaghlpfaaWE
set_option linter.unusedVariables false
set_option linter.unusedSimpArgs false
namespace Go.Proofs.Ytapglfcaghlpfaa
open Go Go.E Go.Maps
set_option maxRecDepth 100000
set_option maxHeartbeats 16000000
/-! ### All numbers of skatings -/
def fcal (c : Cal) : List Int := [c.place, c.elem, c.under] ++ c.marks
def fcN (s : Ska) (k : Nat) : List Int := (s.calls.take k).flatMap fcal
def fpN (s : Ska) (k : Nat) : List Int := (s.parts.take k).flatten
def fska (s : Ska) : List Int := fcN s s.calls.length ++ fpN s s.parts.length
def flN (r : Rul) (l : List Ska) (k : Nat) : List Int := r.bases ++ (l.take k).flatMap fska
theorem fcN_succ {s : Ska} {k : Nat} (h : k < s.calls.length) : fcN s (k + 1) = fcN s k ++ fcal (s.calls.getD k default) := by
  unfold fcN; rw [List.take_succ_eq_append_getElem h, List.flatMap_append, at_lt h]; simp
theorem fpN_succ {s : Ska} {k : Nat} (h : k < s.parts.length) : fpN s (k + 1) = fpN s k ++ s.parts.getD k default := by
  unfold fpN; rw [List.take_succ_eq_append_getElem h, List.flatten_append, at_lt h]; simp
theorem flN_succ {r : Rul} {l : List Ska} {k : Nat} (h : k < l.length) : flN r l (k + 1) = flN r l k ++ fska (l.getD k default) := by
  unfold flN; rw [List.take_succ_eq_append_getElem h, List.flatMap_append, at_lt h, List.append_assoc]; simp
theorem fcN_len {s : Ska} (h : ∀ c ∈ s.calls, c.marks.length ≤ 20) : ∀ k, k ≤ s.calls.length → (fcN s k).length ≤ 23 * k
  | 0, _ => by simp [fcN]
  | k + 1, hk => by
    have := fcN_len h k (by omega)
    have h2 := h (s.calls.getD k default) (by rw [at_lt (by omega)]; exact List.getElem_mem _)
    rw [fcN_succ (by omega), List.length_append]
    unfold fcal
    simp only [List.length_append, List.length_cons, List.length_nil]
    omega
theorem fpN_len {s : Ska} (h : ∀ p ∈ s.parts, p.length ≤ 20) : ∀ k, k ≤ s.parts.length → (fpN s k).length ≤ 20 * k
  | 0, _ => by simp [fpN]
  | k + 1, hk => by
    have := fpN_len h k (by omega)
    have h2 := h (s.parts.getD k default) (by rw [at_lt (by omega)]; exact List.getElem_mem _)
    rw [fpN_succ (by omega), List.length_append]
    omega
structure Few (s : Ska) : Prop where
  calls : s.calls.length ≤ 24
  parts : s.parts.length ≤ 12
  call : ∀ c ∈ s.calls, c.marks.length ≤ 20
  part : ∀ p ∈ s.parts, p.length ≤ 20
theorem flN_len {r : Rul} {l : List Ska} (hr : r.bases.length ≤ 80) (h : ∀ s ∈ l, Few s) : ∀ k, k ≤ l.length → (flN r l k).length ≤ 80 + 1000 * k
  | 0, _ => by simp [flN]; omega
  | k + 1, hk => by
    have := flN_len hr h k (by omega)
    have h2 := h (l.getD k default) (by rw [at_lt (by omega)]; exact List.getElem_mem _)
    have h3 := fcN_len h2.call _ (Nat.le_refl _)
    have h4 := fpN_len h2.part _ (Nat.le_refl _)
    have h5 := h2.calls
    have h6 := h2.parts
    rw [flN_succ (by omega), List.length_append]
    unfold fska
    rw [List.length_append]
    omega
def O30 : Nat → Sch := fun id => if id = 8 then .one 0 (.one 1 (.one 2 (.one 3 (.one 4 (.one 5 (.one 6 (.one 9 (.alt (.one 7 (.alt (.one 8 (.one 10 (.one 11 (.one 12 (.done))))) (.one 10 (.one 8 (.one 11 (.one 12 (.done))))))) (.one 10 (.one 7 (.one 8 (.one 11 (.one 12 (.done)))))))))))))) else .done
theorem O30_8 : O30 8 = .one 0 (.one 1 (.one 2 (.one 3 (.one 4 (.one 5 (.one 6 (.one 9 (.alt (.one 7 (.alt (.one 8 (.one 10 (.one 11 (.one 12 (.done))))) (.one 10 (.one 8 (.one 11 (.one 12 (.done))))))) (.one 10 (.one 7 (.one 8 (.one 11 (.one 12 (.done)))))))))))))) := rfl
theorem ho30 : Try.f30.body.map (okO O30) = some true := by kernel_rfl
def Cf30 : Nat → List AV → (AV → List AV → Sto → Prop) → Kt → List AV → Sto → Prop := fun f args K Q e s => match f with
  | _ => False
def Ct30 : CT := { f := Cf30, y := noYld, z := fun d => false }
theorem ctz30 {d : Nat} : CT.z Ct30 d = (false) := id rfl
theorem Ct30_ok : Ct30.ok Try.prog := ok_of_f (fun f args K Q e s h => by
  have h : Cf30 f args K Q e s := h
  unfold Cf30 at h; split at h
  · exact h.elim) (fun _ _ _ _ _ _ _ _ _ h => h)
theorem c30 : callable Try.prog 30 = true := by kernel_rfl
theorem pf30 (r : Rul) (l : List Ska) (h : (r.bases.length ≤ 80 ∧ l.length ≤ 8) ∧ ∀ s ∈ l, Few s) : PFn Try.prog 30 [.ptr [.sl 1 (r.bases.map ic), .i r.factor, .i r.most] 0, .ptr [.sl 3 (l.map Ska.c)] 0] (fun zz => zz = .ret (.sl 1 ((flN r l l.length).map ic))) := by
  obtain ⟨⟨h1, h2⟩, h3⟩ := h
  have f0 : flN r l 0 = r.bases := by unfold flN; simp
  have f1 := fun k (h : k < l.length) => flN_succ (r := r) h
  have fl := flN_len h1 h3
  generalize flN r l = F at *
  refine PFn_nil (PFn_start (O := O30) Ct30_ok hmix ho30 Try.func30 c30 rfl Try.ntmps30 Try.results30 ?_)
  simp (maxSteps := 4000000) +contextual (disch := first | omega | exact qdb_ok (by kernel_rfl) | exact okb_ok (by kernel_rfl)) only [bw1,bw2,bw3,bw4,bw5,bw6,bw7,bc0,bc1,bc2,bc3,bc4,bc5,bc6,bc7,setPs,AV.owns,AV.datF,AV.frz,AV.cpy,ifV,isEqB,nilV,nilX,AV.isNilS,AV.isNoRows,wk,dclo,datOf,binIs,addF,AV.isPtr,idxV,AV.isSl,AV.isSlice,AV.rows,ps,pv,extV,extS,AV.outs,AV.outF,packD,AV.dl,fieldV,fieldS,AV.cells?,AV.upr,AV.menc,AV.one,D.one,Value.oneCell',tagOf,AV.isApp,strV,strS,bolV,bolS,slcV,AV.isSlD,asrtS,AV.dcells,D.cells?,stcV,stcS,leafOk,eqDs,eqD,packA,D.val?,↓reduceIte,reduceCtorEq,Nat.reduceAdd,Nat.reduceSub,Nat.reduceMul,List.reduceReplicate,Nat.reduceLeDiff,Nat.reduceLT,Nat.reduceBEq,Nat.reduceEqDiff,Int.reduceNeg,Int.reduceEq,Int.reduceLE,Int.reduceLT,tfb,n_retn,n_retr,n_retp,qd_Rn,AV.outN,fl_ic,D.flat,D.flats,ctz30,O30_8,f0]
  refine ⟨by omega, by omega, ?_⟩
  refine loop_u (O := O30) (tb := 0) Ct30_ok hmix (by kernel_rfl) (σ := Nat) (fun i => [(3, .own 11 3 1 ((F i).map ic)), (13, .any), (16, .i i)]) (fun i => []) (fun i => i ≤ l.length) (fun i => l.length - i) (fun i => i + 1) 0 (by omega) ?_ ?_
  · simp (maxSteps := 4000000) +contextual (disch := first | omega | exact qdb_ok (by kernel_rfl) | exact okb_ok (by kernel_rfl)) only [bw1,bw2,bw3,bw4,bw5,bw6,bw7,bc0,bc1,bc2,bc3,bc4,bc5,bc6,bc7,setPs,AV.owns,AV.datF,AV.frz,AV.cpy,ifV,isEqB,nilV,nilX,AV.isNilS,AV.isNoRows,wk,dclo,datOf,binIs,addF,AV.isPtr,idxV,AV.isSl,AV.isSlice,AV.rows,ps,pv,extV,extS,AV.outs,AV.outF,packD,AV.dl,fieldV,fieldS,AV.cells?,AV.upr,AV.menc,AV.one,D.one,Value.oneCell',tagOf,AV.isApp,strV,strS,bolV,bolS,slcV,AV.isSlD,asrtS,AV.dcells,D.cells?,stcV,stcS,leafOk,eqDs,eqD,packA,D.val?,↓reduceIte,reduceCtorEq,Nat.reduceAdd,Nat.reduceSub,Nat.reduceMul,List.reduceReplicate,Nat.reduceLeDiff,Nat.reduceLT,Nat.reduceBEq,Nat.reduceEqDiff,Int.reduceNeg,Int.reduceEq,Int.reduceLE,Int.reduceLT,tfb,n_retn,n_retr,n_retp,qd_Rn,AV.outN,fl_ic,D.flat,D.flats,ctz30,O30_8,eq_self, f0]
  intro i hi
  by_cases hit : i < l.length
  case neg =>
    have hit' : ¬ (i : Int) < l.length := by omega
    obtain rfl : i = l.length := by omega
    simp (maxSteps := 4000000) +contextual (disch := first | omega | exact qdb_ok (by kernel_rfl) | exact okb_ok (by kernel_rfl)) only [bw1,bw2,bw3,bw4,bw5,bw6,bw7,bc0,bc1,bc2,bc3,bc4,bc5,bc6,bc7,setPs,AV.owns,AV.datF,AV.frz,AV.cpy,ifV,isEqB,nilV,nilX,AV.isNilS,AV.isNoRows,wk,dclo,datOf,binIs,addF,AV.isPtr,idxV,AV.isSl,AV.isSlice,AV.rows,ps,pv,extV,extS,AV.outs,AV.outF,packD,AV.dl,fieldV,fieldS,AV.cells?,AV.upr,AV.menc,AV.one,D.one,Value.oneCell',tagOf,AV.isApp,strV,strS,bolV,bolS,slcV,AV.isSlD,asrtS,AV.dcells,D.cells?,stcV,stcS,leafOk,eqDs,eqD,packA,D.val?,↓reduceIte,reduceCtorEq,Nat.reduceAdd,Nat.reduceSub,Nat.reduceMul,List.reduceReplicate,Nat.reduceLeDiff,Nat.reduceLT,Nat.reduceBEq,Nat.reduceEqDiff,Int.reduceNeg,Int.reduceEq,Int.reduceLE,Int.reduceLT,tfb,n_retn,n_retr,n_retp,qd_Rn,AV.outN,fl_ic,D.flat,D.flats,ctz30,O30_8,eq_self, Int.lt_irrefl]
  have hit' : (i : Int) < l.length := by omega
  have hfew := h3 (l.getD i default) (by rw [at_lt hit]; exact List.getElem_mem _)
  have c0 : fcN (l.getD i default) 0 = [] := rfl
  have c1 := fun k (h : k < (l.getD i default).calls.length) => fcN_succ h
  have cl := fcN_len hfew.call
  have p0 : fpN (l.getD i default) 0 = [] := rfl
  have p1 := fun k (h : k < (l.getD i default).parts.length) => fpN_succ h
  have pl := fpN_len hfew.part
  have g1 := hfew.calls
  have g2 := hfew.parts
  have fi := f1 i hit
  have fli := fl i hi
  have hfs : fska (l.getD i default) = fcN (l.getD i default) (l.getD i default).calls.length ++ fpN (l.getD i default) (l.getD i default).parts.length := rfl
  rw [hfs] at fi
  generalize fcN (l.getD i default) = A at *
  generalize fpN (l.getD i default) = B at *
  have hmk := hfew.call
  have hpt := hfew.part
  simp (maxSteps := 4000000) +contextual (disch := first | omega | exact qdb_ok (by kernel_rfl) | exact okb_ok (by kernel_rfl)) only [bw1,bw2,bw3,bw4,bw5,bw6,bw7,bc0,bc1,bc2,bc3,bc4,bc5,bc6,bc7,setPs,AV.owns,AV.datF,AV.frz,AV.cpy,ifV,isEqB,nilV,nilX,AV.isNilS,AV.isNoRows,wk,dclo,datOf,binIs,addF,AV.isPtr,idxV,AV.isSl,AV.isSlice,AV.rows,ps,pv,extV,extS,AV.outs,AV.outF,packD,AV.dl,fieldV,fieldS,AV.cells?,AV.upr,AV.menc,AV.one,D.one,Value.oneCell',tagOf,AV.isApp,strV,strS,bolV,bolS,slcV,AV.isSlD,asrtS,AV.dcells,D.cells?,stcV,stcS,leafOk,eqDs,eqD,packA,D.val?,↓reduceIte,reduceCtorEq,Nat.reduceAdd,Nat.reduceSub,Nat.reduceMul,List.reduceReplicate,Nat.reduceLeDiff,Nat.reduceLT,Nat.reduceBEq,Nat.reduceEqDiff,Int.reduceNeg,Int.reduceEq,Int.reduceLE,Int.reduceLT,tfb,n_retn,n_retr,n_retp,qd_Rn,AV.outN,fl_ic,D.flat,D.flats,ctz30,O30_8,eq_self, hit']
  refine ⟨by omega, ?_⟩
  refine loop_u (O := O30) (tb := 0) Ct30_ok hmix (by kernel_rfl) (σ := Nat) (fun k => [(3, .own 11 3 1 ((F i ++ A k).map ic)), (23, .i k)]) (fun i => []) (fun k => k ≤ (l.getD i default).calls.length) (fun k => (l.getD i default).calls.length - k) (fun k => k + 1) 0 (by omega) ?_ ?_
  · simp (maxSteps := 4000000) +contextual (disch := first | omega | exact qdb_ok (by kernel_rfl) | exact okb_ok (by kernel_rfl)) only [bw1,bw2,bw3,bw4,bw5,bw6,bw7,bc0,bc1,bc2,bc3,bc4,bc5,bc6,bc7,setPs,AV.owns,AV.datF,AV.frz,AV.cpy,ifV,isEqB,nilV,nilX,AV.isNilS,AV.isNoRows,wk,dclo,datOf,binIs,addF,AV.isPtr,idxV,AV.isSl,AV.isSlice,AV.rows,ps,pv,extV,extS,AV.outs,AV.outF,packD,AV.dl,fieldV,fieldS,AV.cells?,AV.upr,AV.menc,AV.one,D.one,Value.oneCell',tagOf,AV.isApp,strV,strS,bolV,bolS,slcV,AV.isSlD,asrtS,AV.dcells,D.cells?,stcV,stcS,leafOk,eqDs,eqD,packA,D.val?,↓reduceIte,reduceCtorEq,Nat.reduceAdd,Nat.reduceSub,Nat.reduceMul,List.reduceReplicate,Nat.reduceLeDiff,Nat.reduceLT,Nat.reduceBEq,Nat.reduceEqDiff,Int.reduceNeg,Int.reduceEq,Int.reduceLE,Int.reduceLT,tfb,n_retn,n_retr,n_retp,qd_Rn,AV.outN,fl_ic,D.flat,D.flats,ctz30,O30_8,eq_self, c0, List.append_nil]
  intro k hk
  by_cases hkt : k < (l.getD i default).calls.length
  · have hkt' : (k : Int) < (l.getD i default).calls.length := by omega
    have c1k := c1 k hkt
    have clk := cl k hk
    have hmm := hmk ((l.getD i default).calls.getD k default) (by rw [at_lt hkt]; exact List.getElem_mem _)
    have hll : (F i ++ A k).length ≤ 100000 := by rw [List.length_append]; omega
    simp (maxSteps := 4000000) +contextual (disch := first | omega | exact qdb_ok (by kernel_rfl) | exact okb_ok (by kernel_rfl)) only [bw1,bw2,bw3,bw4,bw5,bw6,bw7,bc0,bc1,bc2,bc3,bc4,bc5,bc6,bc7,setPs,AV.owns,AV.datF,AV.frz,AV.cpy,ifV,isEqB,nilV,nilX,AV.isNilS,AV.isNoRows,wk,dclo,datOf,binIs,addF,AV.isPtr,idxV,AV.isSl,AV.isSlice,AV.rows,ps,pv,extV,extS,AV.outs,AV.outF,packD,AV.dl,fieldV,fieldS,AV.cells?,AV.upr,AV.menc,AV.one,D.one,Value.oneCell',tagOf,AV.isApp,strV,strS,bolV,bolS,slcV,AV.isSlD,asrtS,AV.dcells,D.cells?,stcV,stcS,leafOk,eqDs,eqD,packA,D.val?,↓reduceIte,reduceCtorEq,Nat.reduceAdd,Nat.reduceSub,Nat.reduceMul,List.reduceReplicate,Nat.reduceLeDiff,Nat.reduceLT,Nat.reduceBEq,Nat.reduceEqDiff,Int.reduceNeg,Int.reduceEq,Int.reduceLE,Int.reduceLT,tfb,n_retn,n_retr,n_retp,qd_Rn,AV.outN,fl_ic,D.flat,D.flats,ctz30,O30_8,eq_self, hkt']
    have hl3 : (List.map ic (F i ++ A k) ++ [[D.v (Value.int IntKind.i64 ((l.getD i default).calls.getD k default).place)], [D.v (Value.int IntKind.i64 ((l.getD i default).calls.getD k default).elem)], [D.v (Value.int IntKind.i64 ((l.getD i default).calls.getD k default).under)]]).length ≤ 100003 := by
      rw [List.length_append, List.length_map]; simp only [List.length_cons, List.length_nil]; omega
    refine ⟨by omega, by omega, by omega, by omega, by omega, ⟨by omega, by omega⟩, ?_⟩
    rw [c1k, List.append_assoc, ← List.append_assoc (F i), List.map_append (l₁ := F i ++ A k)]
    unfold fcal
    rw [List.map_append]
    rfl
  have hkt' : ¬ (k : Int) < (l.getD i default).calls.length := by omega
  obtain rfl : k = (l.getD i default).calls.length := by omega
  simp (maxSteps := 4000000) +contextual (disch := first | omega | exact qdb_ok (by kernel_rfl) | exact okb_ok (by kernel_rfl)) only [bw1,bw2,bw3,bw4,bw5,bw6,bw7,bc0,bc1,bc2,bc3,bc4,bc5,bc6,bc7,setPs,AV.owns,AV.datF,AV.frz,AV.cpy,ifV,isEqB,nilV,nilX,AV.isNilS,AV.isNoRows,wk,dclo,datOf,binIs,addF,AV.isPtr,idxV,AV.isSl,AV.isSlice,AV.rows,ps,pv,extV,extS,AV.outs,AV.outF,packD,AV.dl,fieldV,fieldS,AV.cells?,AV.upr,AV.menc,AV.one,D.one,Value.oneCell',tagOf,AV.isApp,strV,strS,bolV,bolS,slcV,AV.isSlD,asrtS,AV.dcells,D.cells?,stcV,stcS,leafOk,eqDs,eqD,packA,D.val?,↓reduceIte,reduceCtorEq,Nat.reduceAdd,Nat.reduceSub,Nat.reduceMul,List.reduceReplicate,Nat.reduceLeDiff,Nat.reduceLT,Nat.reduceBEq,Nat.reduceEqDiff,Int.reduceNeg,Int.reduceEq,Int.reduceLE,Int.reduceLT,tfb,n_retn,n_retr,n_retp,qd_Rn,AV.outN,fl_ic,D.flat,D.flats,ctz30,O30_8,eq_self, hkt', Int.lt_irrefl]
  refine loop_u (O := O30) (tb := 0) Ct30_ok hmix (by kernel_rfl) (σ := Nat) (fun k => [(3, .own 11 3 1 ((F i ++ A (l.getD i default).calls.length ++ B k).map ic)), (43, .i k)]) (fun i => []) (fun k => k ≤ (l.getD i default).parts.length) (fun k => (l.getD i default).parts.length - k) (fun k => k + 1) 0 (by omega) ?_ ?_
  · simp (maxSteps := 4000000) +contextual (disch := first | omega | exact qdb_ok (by kernel_rfl) | exact okb_ok (by kernel_rfl)) only [bw1,bw2,bw3,bw4,bw5,bw6,bw7,bc0,bc1,bc2,bc3,bc4,bc5,bc6,bc7,setPs,AV.owns,AV.datF,AV.frz,AV.cpy,ifV,isEqB,nilV,nilX,AV.isNilS,AV.isNoRows,wk,dclo,datOf,binIs,addF,AV.isPtr,idxV,AV.isSl,AV.isSlice,AV.rows,ps,pv,extV,extS,AV.outs,AV.outF,packD,AV.dl,fieldV,fieldS,AV.cells?,AV.upr,AV.menc,AV.one,D.one,Value.oneCell',tagOf,AV.isApp,strV,strS,bolV,bolS,slcV,AV.isSlD,asrtS,AV.dcells,D.cells?,stcV,stcS,leafOk,eqDs,eqD,packA,D.val?,↓reduceIte,reduceCtorEq,Nat.reduceAdd,Nat.reduceSub,Nat.reduceMul,List.reduceReplicate,Nat.reduceLeDiff,Nat.reduceLT,Nat.reduceBEq,Nat.reduceEqDiff,Int.reduceNeg,Int.reduceEq,Int.reduceLE,Int.reduceLT,tfb,n_retn,n_retr,n_retp,qd_Rn,AV.outN,fl_ic,D.flat,D.flats,ctz30,O30_8,eq_self, p0, List.append_nil]
  intro k hk
  by_cases hkt : k < (l.getD i default).parts.length
  · have hkt' : (k : Int) < (l.getD i default).parts.length := by omega
    have p1k := p1 k hkt
    have plk := pl k hk
    have clk := cl _ (Nat.le_refl _)
    have hmm := hpt ((l.getD i default).parts.getD k default) (by rw [at_lt hkt]; exact List.getElem_mem _)
    have hll : (F i ++ A (l.getD i default).calls.length ++ B k).length ≤ 100000 := by rw [List.length_append, List.length_append]; omega
    simp (maxSteps := 4000000) +contextual (disch := first | omega | exact qdb_ok (by kernel_rfl) | exact okb_ok (by kernel_rfl)) only [bw1,bw2,bw3,bw4,bw5,bw6,bw7,bc0,bc1,bc2,bc3,bc4,bc5,bc6,bc7,setPs,AV.owns,AV.datF,AV.frz,AV.cpy,ifV,isEqB,nilV,nilX,AV.isNilS,AV.isNoRows,wk,dclo,datOf,binIs,addF,AV.isPtr,idxV,AV.isSl,AV.isSlice,AV.rows,ps,pv,extV,extS,AV.outs,AV.outF,packD,AV.dl,fieldV,fieldS,AV.cells?,AV.upr,AV.menc,AV.one,D.one,Value.oneCell',tagOf,AV.isApp,strV,strS,bolV,bolS,slcV,AV.isSlD,asrtS,AV.dcells,D.cells?,stcV,stcS,leafOk,eqDs,eqD,packA,D.val?,↓reduceIte,reduceCtorEq,Nat.reduceAdd,Nat.reduceSub,Nat.reduceMul,List.reduceReplicate,Nat.reduceLeDiff,Nat.reduceLT,Nat.reduceBEq,Nat.reduceEqDiff,Int.reduceNeg,Int.reduceEq,Int.reduceLE,Int.reduceLT,tfb,n_retn,n_retr,n_retp,qd_Rn,AV.outN,fl_ic,D.flat,D.flats,ctz30,O30_8,eq_self, hkt']
    refine ⟨by omega, by omega, by omega, ⟨by omega, by omega⟩, ?_⟩
    rw [p1k, ← List.append_assoc, List.map_append (l₁ := F i ++ A _ ++ B k)]
  have hkt' : ¬ (k : Int) < (l.getD i default).parts.length := by omega
  obtain rfl : k = (l.getD i default).parts.length := by omega
  simp (maxSteps := 4000000) +contextual (disch := first | omega | exact qdb_ok (by kernel_rfl) | exact okb_ok (by kernel_rfl)) only [bw1,bw2,bw3,bw4,bw5,bw6,bw7,bc0,bc1,bc2,bc3,bc4,bc5,bc6,bc7,setPs,AV.owns,AV.datF,AV.frz,AV.cpy,ifV,isEqB,nilV,nilX,AV.isNilS,AV.isNoRows,wk,dclo,datOf,binIs,addF,AV.isPtr,idxV,AV.isSl,AV.isSlice,AV.rows,ps,pv,extV,extS,AV.outs,AV.outF,packD,AV.dl,fieldV,fieldS,AV.cells?,AV.upr,AV.menc,AV.one,D.one,Value.oneCell',tagOf,AV.isApp,strV,strS,bolV,bolS,slcV,AV.isSlD,asrtS,AV.dcells,D.cells?,stcV,stcS,leafOk,eqDs,eqD,packA,D.val?,↓reduceIte,reduceCtorEq,Nat.reduceAdd,Nat.reduceSub,Nat.reduceMul,List.reduceReplicate,Nat.reduceLeDiff,Nat.reduceLT,Nat.reduceBEq,Nat.reduceEqDiff,Int.reduceNeg,Int.reduceEq,Int.reduceLE,Int.reduceLT,tfb,n_retn,n_retr,n_retp,qd_Rn,AV.outN,fl_ic,D.flat,D.flats,ctz30,O30_8,eq_self, hkt', Int.lt_irrefl]
  refine ⟨⟨by omega, by omega⟩, ?_⟩
  rw [fi, List.append_assoc]
def ent30 (o : Option (List D)) (K : AV → List AV → Sto → Prop) (i : At K) (e : List AV) (s : Sto) : Prop := entSn (α := (Rul) × (List Ska)) (fun aa => [.ptr [.sl 1 (aa.1.bases.map ic), .i aa.1.factor, .i aa.1.most] 0, .ptr [.sl 3 (aa.2.map Ska.c)] 0]) (fun aa => (aa.1.bases.length ≤ 80 ∧ aa.2.length ≤ 8) ∧ ∀ s ∈ aa.2, Few s) (fun aa => .sl 1 ((flN aa.1 aa.2 aa.2.length).map ic)) o K i e s
theorem ent30_ok {args : List AV} {K : AV → List AV → Sto → Prop} {Q : Kt} {e : List AV} {s : Sto} (h : ent30 (AV.outs s args) K (mk _) e s) : pcall Try.prog 30 args K Q e s := entSn_ok (fun aa h => pf30 aa.1 aa.2 h) h
theorem eq30 {r : Rul} {l : List Ska} {KK : AV → List AV → Sto → Prop} {ii : At KK} {ee : List AV} {ss : Sto} : ent30 (some [.ptr [.sl 1 (r.bases.map ic), .i r.factor, .i r.most] 0, .ptr [.sl 3 (l.map Ska.c)] 0]) KK ii ee ss = (((r.bases.length ≤ 80 ∧ l.length ≤ 8) ∧ ∀ s ∈ l, Few s) ∧ KK (.d (.sl 1 ((flN r l l.length).map ic))) ee ss) := by
  unfold ent30; rw [entSn_iff (r, l) (by intro b h; simpa [Prod.ext_iff, and_assoc, Int.ofNat_inj, ints_inj, cals_inj, pcs_inj, skas_inj, scos_inj, ska_inj, rul_inj, sco_inj, cal_inj, ods_inj, od_inj, spns_inj, Int.ofNat_inj, ints_inj, cals_inj, pcs_inj, skas_inj, scos_inj, ska_inj, rul_inj, sco_inj, cal_inj, Int.ofNat_inj, ints_inj, cals_inj, pcs_inj, skas_inj, scos_inj, ska_inj, rul_inj, sco_inj, cal_inj, ods_inj, od_inj, spns_inj] using h)] <;> simp
end Go.Proofs.Ytapglfcaghlpfaa
