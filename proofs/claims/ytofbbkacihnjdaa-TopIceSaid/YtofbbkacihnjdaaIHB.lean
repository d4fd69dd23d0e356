/- A part of the proof that the last text ends: what functions of the program do, told by plain data. -/
import Derived.Test.YtofbbkacihnjdaaIHA
set_option linter.unusedVariables false
set_option linter.unusedSimpArgs false
namespace Go.Proofs.Ytofbbkacihnjdaa
open Go Go.E
set_option maxRecDepth 100000
set_option maxHeartbeats 16000000
def plOk (t : Tt) (p : List Int) : Bool := p.all (fun g => inB g (-1) ((t.groups.length : Int) - 1)) && decide ((p.length : Int) = t.hours.length)
def O7 : Nat → Sch := fun id => if id = 4 then .one 0 (.one 1 (.one 2 (.one 3 (.one 4 (.one 5 (.one 6 (.one 7 (.one 8 (.one 9 (.done)))))))))) else .done
theorem O7_4 : O7 4 = .one 0 (.one 1 (.one 2 (.one 3 (.one 4 (.one 5 (.one 6 (.one 7 (.one 8 (.one 9 (.done)))))))))) := rfl
theorem ho7 : Try.f7.body.map (okO O7) = some true := by kernel_rfl
def Cf7 : Nat → List AV → (AV → List AV → Sto → Prop) → Kt → List AV → Sto → Prop := fun f args K Q e s => match f with
  | 18 => ent18 args K e s
  | _ => False
def Ct7 : CT := { f := Cf7, y := noYld, z := fun d => false }
theorem ctz7 {d : Nat} : CT.z Ct7 d = (false) := id rfl
theorem Ct7_ok : Ct7.ok Try.prog := ok_of_f (fun f args K Q e s h => by
  have h : Cf7 f args K Q e s := h
  unfold Cf7 at h; split at h
  · exact ent18_ok h
  · exact h.elim) (fun _ _ _ _ _ _ _ _ _ h => h)
theorem x7_18 {n : Int} {lo : Int} {hi : Int} {KK : AV → List AV → Sto → Prop} {QQ : Kt} {ii : At KK} {jj : At QQ} {ee : List AV} {ss : Sto} : xC Ct7 18 [.d (.i n), .d (.i lo), .d (.i hi)] KK QQ ii jj ee ss = (KK (.d (.b (inB n lo hi))) ee ss) := eq18
theorem c7 : callable Try.prog 7 = true := by kernel_rfl
theorem pf7 (t : Tt) (p : List Int) (h : t.groups.length ≤ 1000 ∧ p.length ≤ 1000) : PF Try.prog 7 [.agg t.c, .sl 1 (p.map ic)] (fun zz => zz = .ret (.b (plOk t p))) := by
  obtain ⟨hg, hp⟩ := h
  obtain ⟨W, hW⟩ : ∃ W, W = plOk t p := ⟨_, rfl⟩
  rw [← hW]
  refine PF_nil (PF_start (O := O7) Ct7_ok hmix ho7 Try.func7 c7 rfl Try.ntmps7 Try.results7 ?_)
  simp (maxSteps := 4000000) +contextual (disch := first | omega | exact qdb_ok (by kernel_rfl) | exact okb_ok (by kernel_rfl)) only [bw1,bw2,bw3,bw4,bw5,bw6,bw7,bc0,bc1,bc2,bc3,bc4,bc5,bc6,bc7,bb0,setPs,AV.owns,AV.datF,AV.frz,AV.cpy,ifV,isEqB,nilV,nilX,AV.isNilS,AV.isNoRows,wk,dclo,datOf,binIs,addF,AV.isPtr,idxV,AV.isSl,AV.isSlice,AV.rows,ps,pv,extV,extS,AV.outs,AV.outF,packD,AV.dl,fieldV,fieldS,AV.cells?,AV.upr,AV.menc,AV.one,D.one,Value.oneCell',tagOf,AV.isApp,strV,strS,bolV,bolS,slcV,AV.isSlD,asrtS,AV.dcells,D.cells?,stcV,stcS,leafOk,eqDs,eqD,packA,D.val?,↓reduceIte,reduceCtorEq,Nat.reduceAdd,Nat.reduceSub,Nat.reduceMul,List.reduceReplicate,Nat.reduceLeDiff,Nat.reduceLT,Nat.reduceBEq,Nat.reduceEqDiff,Int.reduceNeg,Int.reduceEq,Int.reduceLE,Int.reduceLT,tfb,ctz7,O7_4,x7_18]
  refine loop_xu (O := O7) (tb := 0) Ct7_ok hmix (by kernel_rfl) (σ := Nat) (fun k => [(5, .i k)]) (fun _ => []) (fun k => k ≤ p.length ∧ ∀ q, q < k → inB (p.getD q default) (-1) ((t.groups.length : Int) - 1) = true) (fun k => p.length - k) 0 ⟨Nat.zero_le _, fun q hq => by omega⟩ ?_ ?_
  · simp (maxSteps := 4000000) +contextual (disch := first | omega | exact qdb_ok (by kernel_rfl) | exact okb_ok (by kernel_rfl)) only [bw1,bw2,bw3,bw4,bw5,bw6,bw7,bc0,bc1,bc2,bc3,bc4,bc5,bc6,bc7,bb0,setPs,AV.owns,AV.datF,AV.frz,AV.cpy,ifV,isEqB,nilV,nilX,AV.isNilS,AV.isNoRows,wk,dclo,datOf,binIs,addF,AV.isPtr,idxV,AV.isSl,AV.isSlice,AV.rows,ps,pv,extV,extS,AV.outs,AV.outF,packD,AV.dl,fieldV,fieldS,AV.cells?,AV.upr,AV.menc,AV.one,D.one,Value.oneCell',tagOf,AV.isApp,strV,strS,bolV,bolS,slcV,AV.isSlD,asrtS,AV.dcells,D.cells?,stcV,stcS,leafOk,eqDs,eqD,packA,D.val?,↓reduceIte,reduceCtorEq,Nat.reduceAdd,Nat.reduceSub,Nat.reduceMul,List.reduceReplicate,Nat.reduceLeDiff,Nat.reduceLT,Nat.reduceBEq,Nat.reduceEqDiff,Int.reduceNeg,Int.reduceEq,Int.reduceLE,Int.reduceLT,tfb,ctz7,O7_4,x7_18,eq_self]
    try rfl
  rintro k ⟨hk, hq⟩
  by_cases hlt : k < p.length
  · have hlt' : (k : Int) < p.length := by omega
    have hrw : (p.map ic).getD k [] = ic (p.getD k default) := Go.E.row_at hlt
    by_cases d1 : inB (p.getD k default) (-1) ((t.groups.length : Int) - 1) = true
    · simp (maxSteps := 4000000) +contextual (disch := first | omega | exact qdb_ok (by kernel_rfl) | exact okb_ok (by kernel_rfl)) only [bw1,bw2,bw3,bw4,bw5,bw6,bw7,bc0,bc1,bc2,bc3,bc4,bc5,bc6,bc7,bb0,setPs,AV.owns,AV.datF,AV.frz,AV.cpy,ifV,isEqB,nilV,nilX,AV.isNilS,AV.isNoRows,wk,dclo,datOf,binIs,addF,AV.isPtr,idxV,AV.isSl,AV.isSlice,AV.rows,ps,pv,extV,extS,AV.outs,AV.outF,packD,AV.dl,fieldV,fieldS,AV.cells?,AV.upr,AV.menc,AV.one,D.one,Value.oneCell',tagOf,AV.isApp,strV,strS,bolV,bolS,slcV,AV.isSlD,asrtS,AV.dcells,D.cells?,stcV,stcS,leafOk,eqDs,eqD,packA,D.val?,↓reduceIte,reduceCtorEq,Nat.reduceAdd,Nat.reduceSub,Nat.reduceMul,List.reduceReplicate,Nat.reduceLeDiff,Nat.reduceLT,Nat.reduceBEq,Nat.reduceEqDiff,Int.reduceNeg,Int.reduceEq,Int.reduceLE,Int.reduceLT,tfb,ctz7,O7_4,x7_18,eq_self, hlt', hrw, d1]
      repeat (refine And.intro (by omega) ?_)
      exact ⟨k + 1, ⟨⟨by omega, fun q hq' => by rcases Nat.lt_succ_iff_lt_or_eq.1 hq' with h' | rfl; exact hq q h'; exact d1⟩, by omega⟩, rfl⟩
    · have hWf : W = false := by
        rw [hW]; unfold plOk
        have : p.all (fun g => inB g (-1) ((t.groups.length : Int) - 1)) = false := by
          refine Bool.eq_false_iff.2 fun h => d1 (all_get.1 h k hlt)
        rw [this]; rfl
      simp (maxSteps := 4000000) +contextual (disch := first | omega | exact qdb_ok (by kernel_rfl) | exact okb_ok (by kernel_rfl)) only [bw1,bw2,bw3,bw4,bw5,bw6,bw7,bc0,bc1,bc2,bc3,bc4,bc5,bc6,bc7,bb0,setPs,AV.owns,AV.datF,AV.frz,AV.cpy,ifV,isEqB,nilV,nilX,AV.isNilS,AV.isNoRows,wk,dclo,datOf,binIs,addF,AV.isPtr,idxV,AV.isSl,AV.isSlice,AV.rows,ps,pv,extV,extS,AV.outs,AV.outF,packD,AV.dl,fieldV,fieldS,AV.cells?,AV.upr,AV.menc,AV.one,D.one,Value.oneCell',tagOf,AV.isApp,strV,strS,bolV,bolS,slcV,AV.isSlD,asrtS,AV.dcells,D.cells?,stcV,stcS,leafOk,eqDs,eqD,packA,D.val?,↓reduceIte,reduceCtorEq,Nat.reduceAdd,Nat.reduceSub,Nat.reduceMul,List.reduceReplicate,Nat.reduceLeDiff,Nat.reduceLT,Nat.reduceBEq,Nat.reduceEqDiff,Int.reduceNeg,Int.reduceEq,Int.reduceLE,Int.reduceLT,tfb,ctz7,O7_4,x7_18,eq_self, hlt', hrw, d1, hWf]
      try (and_intros <;> first | omega | trivial)
  obtain rfl : k = p.length := by omega
  have hall : p.all (fun g => inB g (-1) ((t.groups.length : Int) - 1)) = true := all_get.2 hq
  have hWe : W = decide ((p.length : Int) = t.hours.length) := by rw [hW]; unfold plOk; rw [hall]; rfl
  simp (maxSteps := 4000000) +contextual (disch := first | omega | exact qdb_ok (by kernel_rfl) | exact okb_ok (by kernel_rfl)) only [bw1,bw2,bw3,bw4,bw5,bw6,bw7,bc0,bc1,bc2,bc3,bc4,bc5,bc6,bc7,bb0,setPs,AV.owns,AV.datF,AV.frz,AV.cpy,ifV,isEqB,nilV,nilX,AV.isNilS,AV.isNoRows,wk,dclo,datOf,binIs,addF,AV.isPtr,idxV,AV.isSl,AV.isSlice,AV.rows,ps,pv,extV,extS,AV.outs,AV.outF,packD,AV.dl,fieldV,fieldS,AV.cells?,AV.upr,AV.menc,AV.one,D.one,Value.oneCell',tagOf,AV.isApp,strV,strS,bolV,bolS,slcV,AV.isSlD,asrtS,AV.dcells,D.cells?,stcV,stcS,leafOk,eqDs,eqD,packA,D.val?,↓reduceIte,reduceCtorEq,Nat.reduceAdd,Nat.reduceSub,Nat.reduceMul,List.reduceReplicate,Nat.reduceLeDiff,Nat.reduceLT,Nat.reduceBEq,Nat.reduceEqDiff,Int.reduceNeg,Int.reduceEq,Int.reduceLE,Int.reduceLT,tfb,ctz7,O7_4,x7_18,eq_self, Int.lt_irrefl, hWe]
  try rfl
def cnG (p : List Int) (k : Nat) (g : Int) : Nat := (p.take k).countP fun x => decide (x = g)
theorem cnG_yes {p : List Int} {k : Nat} (h : k < p.length) {g : Int} (e : p.getD k default = g) : cnG p (k + 1) g = cnG p k g + 1 := by
  unfold cnG; rw [take_succ h, List.countP_append, List.countP_singleton, e]; simp
theorem cnG_no {p : List Int} {k : Nat} (h : k < p.length) {g : Int} (e : ¬ p.getD k default = g) : cnG p (k + 1) g = cnG p k g := by
  unfold cnG; rw [take_succ h, List.countP_append, List.countP_singleton, decide_eq_false e]; simp
theorem ics_flat : ∀ L : List Int, rowsFlat (L.map ic) = true
  | [] => rfl
  | a :: L => by
    have := ics_flat L
    simp only [rowsFlat, List.map_cons, List.all_cons, Bool.and_eq_true] at this ⊢
    exact ⟨rfl, this⟩
def ent7 (args : List AV) (K : AV → List AV → Sto → Prop) (e : List AV) (s : Sto) : Prop := ent (α := (Tt) × (List Int)) (fun aa => [.agg aa.1.c, .sl 1 (aa.2.map ic)]) (fun aa => aa.1.groups.length ≤ 1000 ∧ aa.2.length ≤ 1000) (fun aa => .b (plOk aa.1 aa.2)) args K e s
theorem ent7_ok {args : List AV} {K : AV → List AV → Sto → Prop} {Q : Kt} {e : List AV} {s : Sto} (h : ent7 args K e s) : pcall Try.prog 7 args K Q e s := ent_ok (fun aa h => pf7 aa.1 aa.2 h) h
theorem eq7 {t : Tt} {p : List Int} {KK : AV → List AV → Sto → Prop} {ee : List AV} {ss : Sto} : ent7 [.d (.agg t.c), .d (.sl 1 (p.map ic))] KK ee ss = ((t.groups.length ≤ 1000 ∧ p.length ≤ 1000) ∧ KK (.d (.b (plOk t p))) ee ss) := by
  unfold ent7; rw [ent_iff (t, p) (by intro b h; simpa [Prod.ext_iff, and_assoc, Int.ofNat_inj, ints_inj, hrs_inj, grs_inj, hr_inj, gr_inj, tt_inj] using h) rfl]; simp
end Go.Proofs.Ytofbbkacihnjdaa
