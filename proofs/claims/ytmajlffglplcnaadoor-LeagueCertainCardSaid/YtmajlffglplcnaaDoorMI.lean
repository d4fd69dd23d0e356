/- A part of the proof that the last text ends: what functions of the program do, told by plain data. -/
import Derived.Test.YtmajlffglplcnaaDoorMH
set_option linter.unusedVariables false
set_option linter.unusedSimpArgs false
namespace Go.Proofs.YtmajlffglplcnaaDoor
open Go Go.E
set_option maxRecDepth 100000
set_option maxHeartbeats 16000000
def errR (l : Lea) (t p : Int) : Int := if leaOk l = true then (if inB t 0 ((l.far.length : Int) - 1) = true ∧ inB p 1 l.far.length = true then 0 else 2) else 1
def lfB (t : Int) (g : Gam) : Bool := decide (g.fin = 0) && (decide (t < 0) || hasB g t)
def lfN (l : List Gam) (t : Int) (k : Nat) : Nat := (l.take k).countP (lfB t)
def lfF (l : List Gam) (t : Int) : Nat := lfN l t l.length
theorem lfN_zero {l : List Gam} {t : Int} : lfN l t 0 = 0 := by simp [lfN]
theorem lfN_yes {l : List Gam} {t : Int} {k : Nat} (h : k < l.length) (c : lfB t (l.getD k default) = true) : lfN l t (k + 1) = lfN l t k + 1 := by
  unfold lfN; rw [take_succ h, List.countP_append, List.countP_singleton, c]; rfl
theorem lfN_no {l : List Gam} {t : Int} {k : Nat} (h : k < l.length) (c : lfB t (l.getD k default) = false) : lfN l t (k + 1) = lfN l t k := by
  unfold lfN; rw [take_succ h, List.countP_append, List.countP_singleton, c]; rfl
theorem lfN_le {l : List Gam} {t : Int} {k : Nat} : lfN l t k ≤ k := by
  unfold lfN; exact Nat.le_trans List.countP_le_length (by simp; omega)
def cnB (f : Nat → Int) (t m : Int) (i : Nat) : Bool := !decide ((i : Int) = t) && decide (m ≤ f i)
def cnN (f : Nat → Int) (t m : Int) (k : Nat) : Nat := (List.range k).countP (cnB f t m)
theorem cnN_yes {f : Nat → Int} {t m : Int} {k : Nat} (h : cnB f t m k = true) : cnN f t m (k + 1) = cnN f t m k + 1 := by
  unfold cnN; rw [List.range_succ, List.countP_append, List.countP_singleton, h]; rfl
theorem cnN_no {f : Nat → Int} {t m : Int} {k : Nat} (h : cnB f t m k = false) : cnN f t m (k + 1) = cnN f t m k := by
  unfold cnN; rw [List.range_succ, List.countP_append, List.countP_singleton, h]; rfl
theorem cnN_le {f : Nat → Int} {t m : Int} {k : Nat} : cnN f t m k ≤ k := by
  unfold cnN; exact Nat.le_trans List.countP_le_length (by simp)
theorem cnB_self {f : Nat → Int} {t m : Int} {i : Nat} (h : (i : Int) = t) : cnB f t m i = false := by unfold cnB; rw [decide_eq_true h]; rfl
theorem cnB_yes {f : Nat → Int} {t m : Int} {i : Nat} (h : ¬ (i : Int) = t) (h2 : m ≤ f i) : cnB f t m i = true := by unfold cnB; rw [decide_eq_false h, decide_eq_true h2]; rfl
theorem cnB_no {f : Nat → Int} {t m : Int} {i : Nat} (h : ¬ (i : Int) = t) (h2 : ¬ m ≤ f i) : cnB f t m i = false := by unfold cnB; rw [decide_eq_false h, decide_eq_false h2]; rfl
def ptsF (l : List Gam) (i : Nat) : Int := (stF l (i : Int)).pts
def saF (l : Lea) (t : Int) : Int := (cnN (ptsF l.games) t (stF l.games t).pts l.far.length : Int)
def moF (l : Lea) (t : Int) : Int := (cnN (ptsF l.games) t ((stF l.games t).pts + 1) l.far.length : Int)
def O26 : Nat → Sch := fun id => .done
theorem ho26 : Tryd.f26.body.map (okO O26) = some true := by kernel_rfl
def Cf26 : Nat → List AV → (AV → List AV → Sto → Prop) → Kt → List AV → Sto → Prop := fun f args K Q e s => match f with
  | 44 => ent44 args K e s
  | _ => False
def Ct26 : CT := { f := Cf26, y := noYld, z := fun d => false }
theorem ctz26 {d : Nat} : CT.z Ct26 d = (false) := id rfl
theorem Ct26_ok : Ct26.ok Tryd.prog := ok_of_f (fun f args K Q e s h => by
  have h : Cf26 f args K Q e s := h
  unfold Cf26 at h; split at h
  · exact ent44_ok h
  · exact h.elim) (fun _ _ _ _ _ _ _ _ _ h => h)
theorem x26_44 {l : Lea} {t : Int} {KK : AV → List AV → Sto → Prop} {QQ : Kt} {ii : At KK} {jj : At QQ} {ee : List AV} {ss : Sto} : xC Ct26 44 [.d (.agg l.c), .d (.i t)] KK QQ ii jj ee ss = ((gsOk l.games) ∧ KK (.d (.agg (stF l.games t).c)) ee ss) := eq44
theorem c26 : callable Tryd.prog 26 = true := by kernel_rfl
theorem pf26 (l : Lea) (t : Int) (h : gsOk l.games ∧ l.far.length ≤ 1000) : PF Tryd.prog 26 [.agg l.c, .i t] (fun zz => zz = .ret (.tup [.i (saF l t), .i (moF l t)])) := by
  obtain ⟨h, hfar⟩ := h
  refine PF_nil (PF_start (O := O26) Ct26_ok hmix ho26 Tryd.func26 c26 rfl Tryd.ntmps26 Tryd.results26 ?_)
  simp (maxSteps := 4000000) +contextual (disch := first | omega | exact qdb_ok (by kernel_rfl) | exact okb_ok (by kernel_rfl)) only [bw1,bw2,bw3,bw4,bw5,bw6,bw7,bc0,bc1,bc2,bc3,bc4,bc5,bc6,bc7,bb0,setPs,AV.owns,AV.datF,AV.frz,AV.cpy,ifV,isEqB,nilV,nilX,AV.isNilS,AV.isNoRows,wk,dclo,datOf,binIs,addF,AV.isPtr,idxV,AV.isSl,AV.isSlice,AV.rows,ps,pv,extV,extS,AV.outs,AV.outF,packD,AV.dl,fieldV,fieldS,AV.cells?,AV.upr,AV.menc,AV.one,D.one,Value.oneCell',tagOf,AV.isApp,strV,strS,bolV,bolS,slcV,AV.isSlD,asrtS,AV.dcells,D.cells?,stcV,stcS,leafOk,eqDs,eqD,packA,D.val?,↓reduceIte,reduceCtorEq,Nat.reduceAdd,Nat.reduceSub,Nat.reduceMul,List.reduceReplicate,Nat.reduceLeDiff,Nat.reduceLT,Nat.reduceBEq,Nat.reduceEqDiff,Int.reduceNeg,Int.reduceEq,Int.reduceLE,Int.reduceLT,tfb,ctz26,x26_44,h]
  refine loop_xu (O := O26) (tb := 0) Ct26_ok hmix (by kernel_rfl) (σ := Nat) (fun k => [(7, .i (cnN (ptsF l.games) t (stF l.games t).pts k : Int)), (8, .i (cnN (ptsF l.games) t ((stF l.games t).pts + 1) k : Int)), (9, .i k), (10, .any)]) (fun _ => []) (fun k => k ≤ l.far.length) (fun k => l.far.length - k) 0 (Nat.zero_le _) ?_ ?_
  · have hz : ∀ m, (cnN (ptsF l.games) t m 0 : Int) = 0 := fun _ => rfl
    simp (maxSteps := 4000000) +contextual (disch := first | omega | exact qdb_ok (by kernel_rfl) | exact okb_ok (by kernel_rfl)) only [bw1,bw2,bw3,bw4,bw5,bw6,bw7,bc0,bc1,bc2,bc3,bc4,bc5,bc6,bc7,bb0,setPs,AV.owns,AV.datF,AV.frz,AV.cpy,ifV,isEqB,nilV,nilX,AV.isNilS,AV.isNoRows,wk,dclo,datOf,binIs,addF,AV.isPtr,idxV,AV.isSl,AV.isSlice,AV.rows,ps,pv,extV,extS,AV.outs,AV.outF,packD,AV.dl,fieldV,fieldS,AV.cells?,AV.upr,AV.menc,AV.one,D.one,Value.oneCell',tagOf,AV.isApp,strV,strS,bolV,bolS,slcV,AV.isSlD,asrtS,AV.dcells,D.cells?,stcV,stcS,leafOk,eqDs,eqD,packA,D.val?,↓reduceIte,reduceCtorEq,Nat.reduceAdd,Nat.reduceSub,Nat.reduceMul,List.reduceReplicate,Nat.reduceLeDiff,Nat.reduceLT,Nat.reduceBEq,Nat.reduceEqDiff,Int.reduceNeg,Int.reduceEq,Int.reduceLE,Int.reduceLT,tfb,ctz26,x26_44,eq_self, hz]
    try rfl
  rintro k hk
  have hle := cnN_le (f := ptsF l.games) (t := t) (m := (stF l.games t).pts) (k := k)
  have hle2 := cnN_le (f := ptsF l.games) (t := t) (m := (stF l.games t).pts + 1) (k := k)
  by_cases hlt : k < l.far.length
  case neg =>
    obtain rfl : k = l.far.length := by omega
    simp (maxSteps := 4000000) +contextual (disch := first | omega | exact qdb_ok (by kernel_rfl) | exact okb_ok (by kernel_rfl)) only [bw1,bw2,bw3,bw4,bw5,bw6,bw7,bc0,bc1,bc2,bc3,bc4,bc5,bc6,bc7,bb0,setPs,AV.owns,AV.datF,AV.frz,AV.cpy,ifV,isEqB,nilV,nilX,AV.isNilS,AV.isNoRows,wk,dclo,datOf,binIs,addF,AV.isPtr,idxV,AV.isSl,AV.isSlice,AV.rows,ps,pv,extV,extS,AV.outs,AV.outF,packD,AV.dl,fieldV,fieldS,AV.cells?,AV.upr,AV.menc,AV.one,D.one,Value.oneCell',tagOf,AV.isApp,strV,strS,bolV,bolS,slcV,AV.isSlD,asrtS,AV.dcells,D.cells?,stcV,stcS,leafOk,eqDs,eqD,packA,D.val?,↓reduceIte,reduceCtorEq,Nat.reduceAdd,Nat.reduceSub,Nat.reduceMul,List.reduceReplicate,Nat.reduceLeDiff,Nat.reduceLT,Nat.reduceBEq,Nat.reduceEqDiff,Int.reduceNeg,Int.reduceEq,Int.reduceLE,Int.reduceLT,tfb,ctz26,x26_44,eq_self, Int.lt_irrefl]
    try (and_intros <;> rfl)
  have hlt' : (k : Int) < l.far.length := by omega
  by_cases d1 : (k : Int) = t
  · have d1b : ((k : Int) == t) = true := by simpa using d1
    have hs1 := cnN_no (cnB_self (f := ptsF l.games) (m := (stF l.games t).pts) d1)
    have hs2 := cnN_no (cnB_self (f := ptsF l.games) (m := (stF l.games t).pts + 1) d1)
    simp (maxSteps := 4000000) +contextual (disch := first | omega | exact qdb_ok (by kernel_rfl) | exact okb_ok (by kernel_rfl)) only [bw1,bw2,bw3,bw4,bw5,bw6,bw7,bc0,bc1,bc2,bc3,bc4,bc5,bc6,bc7,bb0,setPs,AV.owns,AV.datF,AV.frz,AV.cpy,ifV,isEqB,nilV,nilX,AV.isNilS,AV.isNoRows,wk,dclo,datOf,binIs,addF,AV.isPtr,idxV,AV.isSl,AV.isSlice,AV.rows,ps,pv,extV,extS,AV.outs,AV.outF,packD,AV.dl,fieldV,fieldS,AV.cells?,AV.upr,AV.menc,AV.one,D.one,Value.oneCell',tagOf,AV.isApp,strV,strS,bolV,bolS,slcV,AV.isSlD,asrtS,AV.dcells,D.cells?,stcV,stcS,leafOk,eqDs,eqD,packA,D.val?,↓reduceIte,reduceCtorEq,Nat.reduceAdd,Nat.reduceSub,Nat.reduceMul,List.reduceReplicate,Nat.reduceLeDiff,Nat.reduceLT,Nat.reduceBEq,Nat.reduceEqDiff,Int.reduceNeg,Int.reduceEq,Int.reduceLE,Int.reduceLT,tfb,ctz26,x26_44,eq_self, hlt', h, d1b]
    repeat (refine And.intro (by omega) ?_)
    exact ⟨k + 1, ⟨by omega, by omega⟩, by rw [hs1], by rw [hs2], rfl⟩
  have d1b : ((k : Int) == t) = false := by simpa using d1
  by_cases d2 : (stF l.games t).pts ≤ (stF l.games k).pts
  case neg =>
    have d3 : ¬ (stF l.games t).pts < (stF l.games k).pts := by omega
    have hs1 := cnN_no (cnB_no (f := ptsF l.games) (m := (stF l.games t).pts) d1 (by unfold ptsF; omega))
    have hs2 := cnN_no (cnB_no (f := ptsF l.games) (m := (stF l.games t).pts + 1) d1 (by unfold ptsF; omega))
    simp (maxSteps := 4000000) +contextual (disch := first | omega | exact qdb_ok (by kernel_rfl) | exact okb_ok (by kernel_rfl)) only [bw1,bw2,bw3,bw4,bw5,bw6,bw7,bc0,bc1,bc2,bc3,bc4,bc5,bc6,bc7,bb0,setPs,AV.owns,AV.datF,AV.frz,AV.cpy,ifV,isEqB,nilV,nilX,AV.isNilS,AV.isNoRows,wk,dclo,datOf,binIs,addF,AV.isPtr,idxV,AV.isSl,AV.isSlice,AV.rows,ps,pv,extV,extS,AV.outs,AV.outF,packD,AV.dl,fieldV,fieldS,AV.cells?,AV.upr,AV.menc,AV.one,D.one,Value.oneCell',tagOf,AV.isApp,strV,strS,bolV,bolS,slcV,AV.isSlD,asrtS,AV.dcells,D.cells?,stcV,stcS,leafOk,eqDs,eqD,packA,D.val?,↓reduceIte,reduceCtorEq,Nat.reduceAdd,Nat.reduceSub,Nat.reduceMul,List.reduceReplicate,Nat.reduceLeDiff,Nat.reduceLT,Nat.reduceBEq,Nat.reduceEqDiff,Int.reduceNeg,Int.reduceEq,Int.reduceLE,Int.reduceLT,tfb,ctz26,x26_44,eq_self, hlt', h, d1b, d2, d3]
    repeat (refine And.intro (by omega) ?_)
    exact ⟨k + 1, ⟨by omega, by omega⟩, by rw [hs1], by rw [hs2], rfl⟩
  have hs1 := cnN_yes (cnB_yes (f := ptsF l.games) (m := (stF l.games t).pts) d1 (by unfold ptsF; omega))
  by_cases d3 : (stF l.games t).pts < (stF l.games k).pts
  · have hs2 := cnN_yes (cnB_yes (f := ptsF l.games) (m := (stF l.games t).pts + 1) d1 (by unfold ptsF; omega))
    simp (maxSteps := 4000000) +contextual (disch := first | omega | exact qdb_ok (by kernel_rfl) | exact okb_ok (by kernel_rfl)) only [bw1,bw2,bw3,bw4,bw5,bw6,bw7,bc0,bc1,bc2,bc3,bc4,bc5,bc6,bc7,bb0,setPs,AV.owns,AV.datF,AV.frz,AV.cpy,ifV,isEqB,nilV,nilX,AV.isNilS,AV.isNoRows,wk,dclo,datOf,binIs,addF,AV.isPtr,idxV,AV.isSl,AV.isSlice,AV.rows,ps,pv,extV,extS,AV.outs,AV.outF,packD,AV.dl,fieldV,fieldS,AV.cells?,AV.upr,AV.menc,AV.one,D.one,Value.oneCell',tagOf,AV.isApp,strV,strS,bolV,bolS,slcV,AV.isSlD,asrtS,AV.dcells,D.cells?,stcV,stcS,leafOk,eqDs,eqD,packA,D.val?,↓reduceIte,reduceCtorEq,Nat.reduceAdd,Nat.reduceSub,Nat.reduceMul,List.reduceReplicate,Nat.reduceLeDiff,Nat.reduceLT,Nat.reduceBEq,Nat.reduceEqDiff,Int.reduceNeg,Int.reduceEq,Int.reduceLE,Int.reduceLT,tfb,ctz26,x26_44,eq_self, hlt', h, d1b, d2, d3]
    repeat (refine And.intro (by omega) ?_)
    exact ⟨k + 1, ⟨by omega, by omega⟩, by rw [hs1]; rfl, by rw [hs2]; rfl, rfl⟩
  · have hs2 := cnN_no (cnB_no (f := ptsF l.games) (m := (stF l.games t).pts + 1) d1 (by unfold ptsF; omega))
    simp (maxSteps := 4000000) +contextual (disch := first | omega | exact qdb_ok (by kernel_rfl) | exact okb_ok (by kernel_rfl)) only [bw1,bw2,bw3,bw4,bw5,bw6,bw7,bc0,bc1,bc2,bc3,bc4,bc5,bc6,bc7,bb0,setPs,AV.owns,AV.datF,AV.frz,AV.cpy,ifV,isEqB,nilV,nilX,AV.isNilS,AV.isNoRows,wk,dclo,datOf,binIs,addF,AV.isPtr,idxV,AV.isSl,AV.isSlice,AV.rows,ps,pv,extV,extS,AV.outs,AV.outF,packD,AV.dl,fieldV,fieldS,AV.cells?,AV.upr,AV.menc,AV.one,D.one,Value.oneCell',tagOf,AV.isApp,strV,strS,bolV,bolS,slcV,AV.isSlD,asrtS,AV.dcells,D.cells?,stcV,stcS,leafOk,eqDs,eqD,packA,D.val?,↓reduceIte,reduceCtorEq,Nat.reduceAdd,Nat.reduceSub,Nat.reduceMul,List.reduceReplicate,Nat.reduceLeDiff,Nat.reduceLT,Nat.reduceBEq,Nat.reduceEqDiff,Int.reduceNeg,Int.reduceEq,Int.reduceLE,Int.reduceLT,tfb,ctz26,x26_44,eq_self, hlt', h, d1b, d2, d3]
    repeat (refine And.intro (by omega) ?_)
    exact ⟨k + 1, ⟨by omega, by omega⟩, by rw [hs1]; rfl, by rw [hs2], rfl⟩
def ent26 (args : List AV) (K : AV → List AV → Sto → Prop) (e : List AV) (s : Sto) : Prop := ent (α := (Lea) × (Int)) (fun aa => [.agg aa.1.c, .i aa.2]) (fun aa => gsOk aa.1.games ∧ aa.1.far.length ≤ 1000) (fun aa => .tup [.i (saF aa.1 aa.2), .i (moF aa.1 aa.2)]) args K e s
theorem ent26_ok {args : List AV} {K : AV → List AV → Sto → Prop} {Q : Kt} {e : List AV} {s : Sto} (h : ent26 args K e s) : pcall Tryd.prog 26 args K Q e s := ent_ok (fun aa h => pf26 aa.1 aa.2 h) h
theorem eq26 {l : Lea} {t : Int} {KK : AV → List AV → Sto → Prop} {ee : List AV} {ss : Sto} : ent26 [.d (.agg l.c), .d (.i t)] KK ee ss = ((gsOk l.games ∧ l.far.length ≤ 1000) ∧ KK (.d (.tup [.i (saF l t), .i (moF l t)])) ee ss) := by
  unfold ent26; rw [ent_iff (l, t) (by intro b h; simpa [Prod.ext_iff, and_assoc, Int.ofNat_inj, ints_inj, gams_inj, fars_inj, gam_inj, lea_inj, Int.ofNat_inj, ints_inj, gams_inj, fars_inj, gam_inj, lea_inj, stds_inj, std_inj] using h) rfl]; simp
end Go.Proofs.YtmajlffglplcnaaDoor
