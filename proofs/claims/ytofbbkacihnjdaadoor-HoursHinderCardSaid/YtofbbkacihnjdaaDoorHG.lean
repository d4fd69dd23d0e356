/- A part of the proof that the last text ends: what functions of the program do, told by plain data. -/
import Derived.Test.YtofbbkacihnjdaaDoorHF
set_option linter.unusedVariables false
set_option linter.unusedSimpArgs false
namespace Go.Proofs.YtofbbkacihnjdaaDoor
open Go Go.E Go.Maps
set_option maxRecDepth 100000
set_option maxHeartbeats 16000000
theorem good_no {t : Tt} {p : List Int} {i : Nat} (hi : i < p.length) (h : erR t p i ≠ 0) : goodB t p = false := Bool.eq_false_iff.2 fun e => h ((good_iff.1 e).2 i hi)
theorem er_neg {t : Tt} {p : List Int} {i : Nat} (h : p.getD i default < 0) : erR t p i = 0 := by unfold erR; rw [if_pos h]
theorem er_may {t : Tt} {p : List Int} {i g : Nat} (h : p.getD i default = (g : Int)) (h1 : ¬ mayB (t.groups.getD g default) (t.hours.getD i default) = true) : erR t p i ≠ 0 := by
  unfold erR; rw [h, if_neg (by omega), Int.toNat_natCast, if_pos h1]; decide
theorem er_lim {t : Tt} {p : List Int} {i g : Nat} (h : p.getD i default = (g : Int)) (h2 : (t.groups.getD g default).most < (cnG p (i + 1) (g : Int) : Int)) : erR t p i ≠ 0 := by
  unfold erR; rw [h, if_neg (by omega), Int.toNat_natCast]
  by_cases h1 : mayB (t.groups.getD g default) (t.hours.getD i default) = true
  · rw [if_neg (fun c => c h1), if_pos h2]; decide
  · rw [if_pos h1]; decide
theorem er_nr {t : Tt} {p : List Int} {i g : Nat} (h : p.getD i default = (g : Int)) (h3 : neB t i = true ∧ 0 ≤ p.getD (i - 1) default ∧ ¬ p.getD (i - 1) default = (g : Int)) : erR t p i ≠ 0 := by
  unfold erR; rw [h, if_neg (by omega), Int.toNat_natCast]
  by_cases h1 : mayB (t.groups.getD g default) (t.hours.getD i default) = true
  · rw [if_neg (fun c => c h1)]
    by_cases h2 : (t.groups.getD g default).most < (cnG p (i + 1) (g : Int) : Int)
    · rw [if_pos h2]; decide
    · rw [if_neg h2, if_pos h3]; decide
  · rw [if_pos h1]; decide
theorem er_fine {t : Tt} {p : List Int} {i g : Nat} (h : p.getD i default = (g : Int)) (h1 : mayB (t.groups.getD g default) (t.hours.getD i default) = true) (h2 : ¬ (t.groups.getD g default).most < (cnG p (i + 1) (g : Int) : Int)) (h3 : ¬ (neB t i = true ∧ 0 ≤ p.getD (i - 1) default ∧ ¬ p.getD (i - 1) default = (g : Int))) : erR t p i = 0 := by
  unfold erR; rw [h, if_neg (by omega), Int.toNat_natCast, if_neg (fun c => c h1), if_neg h2, if_neg h3]
theorem neB_iff {t : Tt} {i : Nat} : neB t i = true ↔ 0 < i ∧ (t.hours.getD i default).day = (t.hours.getD (i - 1) default).day ∧ (t.hours.getD i default).b - (t.hours.getD (i - 1) default).e < t.res := by
  unfold neB; simp only [Bool.and_eq_true, decide_eq_true_eq]
def O22 : Nat → Sch := fun id => if id = 10 then .one 0 (.one 1 (.one 2 (.one 3 (.one 4 (.one 5 (.one 6 (.one 7 (.one 8 (.one 9 (.one 10 (.one 11 (.one 12 (.one 13 (.one 14 (.one 15 (.one 16 (.one 17 (.one 18 (.one 19 (.one 20 (.one 21 (.one 22 (.one 23 (.one 24 (.done))))))))))))))))))))))))) else if id = 12 then .one 0 (.one 1 (.one 2 (.one 3 (.one 4 (.one 5 (.one 6 (.one 7 (.one 8 (.one 9 (.one 10 (.one 11 (.one 12 (.one 13 (.one 14 (.one 15 (.one 16 (.one 17 (.one 18 (.one 19 (.one 20 (.one 21 (.one 22 (.one 23 (.one 24 (.one 25 (.one 26 (.one 27 (.one 28 (.one 29 (.one 30 (.one 31 (.one 32 (.one 33 (.one 34 (.done))))))))))))))))))))))))))))))))))) else if id = 13 then .one 0 (.one 1 (.one 2 (.one 3 (.one 4 (.one 5 (.one 6 (.one 7 (.one 8 (.one 9 (.one 10 (.one 11 (.one 12 (.one 13 (.one 14 (.one 15 (.one 16 (.done))))))))))))))))) else .done
theorem O22_10 : O22 10 = .one 0 (.one 1 (.one 2 (.one 3 (.one 4 (.one 5 (.one 6 (.one 7 (.one 8 (.one 9 (.one 10 (.one 11 (.one 12 (.one 13 (.one 14 (.one 15 (.one 16 (.one 17 (.one 18 (.one 19 (.one 20 (.one 21 (.one 22 (.one 23 (.one 24 (.done))))))))))))))))))))))))) := rfl
theorem O22_12 : O22 12 = .one 0 (.one 1 (.one 2 (.one 3 (.one 4 (.one 5 (.one 6 (.one 7 (.one 8 (.one 9 (.one 10 (.one 11 (.one 12 (.one 13 (.one 14 (.one 15 (.one 16 (.one 17 (.one 18 (.one 19 (.one 20 (.one 21 (.one 22 (.one 23 (.one 24 (.one 25 (.one 26 (.one 27 (.one 28 (.one 29 (.one 30 (.one 31 (.one 32 (.one 33 (.one 34 (.done))))))))))))))))))))))))))))))))))) := rfl
theorem O22_13 : O22 13 = .one 0 (.one 1 (.one 2 (.one 3 (.one 4 (.one 5 (.one 6 (.one 7 (.one 8 (.one 9 (.one 10 (.one 11 (.one 12 (.one 13 (.one 14 (.one 15 (.one 16 (.done))))))))))))))))) := rfl
theorem ho22 : Tryd.f22.body.map (okO O22) = some true := by kernel_rfl
def Cf22 : Nat → List AV → (AV → List AV → Sto → Prop) → Kt → List AV → Sto → Prop := fun f args K Q e s => match f with
  | 27 => ent27 args K e s
  | 50 => ent50 args K e s
  | _ => False
def Ct22 : CT := { f := Cf22, y := noYld, z := fun d => false }
theorem ctz22 {d : Nat} : CT.z Ct22 d = (false) := id rfl
theorem Ct22_ok : Ct22.ok Tryd.prog := ok_of_f (fun f args K Q e s h => by
  have h : Cf22 f args K Q e s := h
  unfold Cf22 at h; split at h
  · exact ent27_ok h
  · exact ent50_ok h
  · exact h.elim) (fun _ _ _ _ _ _ _ _ _ h => h)
theorem x22_27 {t : Tt} {p : List Int} {KK : AV → List AV → Sto → Prop} {QQ : Kt} {ii : At KK} {jj : At QQ} {ee : List AV} {ss : Sto} : xC Ct22 27 [.d (.agg t.c), .d (.sl 1 (p.map ic))] KK QQ ii jj ee ss = ((t.groups.length ≤ 1000 ∧ p.length ≤ 1000) ∧ KK (.d (.b (plOk t p))) ee ss) := eq27
theorem x22_27_m1 {t : Tt} {p : List Int} {g1 el1 : Nat} {KK : AV → List AV → Sto → Prop} {QQ : Kt} {ii : At KK} {jj : At QQ} {ee : List AV} {ss : Sto} : xC Ct22 27 [.d (.agg t.c), .own g1 el1 1 (p.map ic)] KK QQ ii jj ee ss = ((t.groups.length ≤ 1000 ∧ p.length ≤ 1000) ∧ (.b (plOk t p) : D).flat = true ∧ KK (.d (.b (plOk t p))) ee ss) := eqo27
theorem x22_50 {g : Gr} {h' : Hr} {KK : AV → List AV → Sto → Prop} {QQ : Kt} {ii : At KK} {jj : At QQ} {ee : List AV} {ss : Sto} : xC Ct22 50 [.d (.agg g.c), .d (.agg h'.c)] KK QQ ii jj ee ss = (((0 ≤ g.days ∧ g.days ≤ 127) ∧ 0 ≤ h'.day ∧ h'.day ≤ 6) ∧ KK (.d (.b (mayB g h'))) ee ss) := eq50
theorem c22 : callable Tryd.prog 22 = true := by kernel_rfl
theorem pf22 (t : Tt) (p : List Int) (h : ttOk t = true ∧ p.length ≤ 1000) : PF Tryd.prog 22 [.agg t.c, .sl 1 (p.map ic)] (fun zz => zz = .ret (.b (goodB t p))) := by
  obtain ⟨ht, hp⟩ := h
  have hbig := tt_hours ht
  have hg5 : t.groups.length ≤ 1000 := by omega
  obtain ⟨W, hW⟩ : ∃ W, W = goodB t p := ⟨_, rfl⟩
  rw [← hW]
  by_cases c2 : plOk t p = true
  case neg =>
    have hWf : W = false := by rw [hW]; exact Bool.eq_false_iff.2 fun e => c2 (good_iff.1 e).1
    refine PF_nil (PF_start (O := O22) Ct22_ok hmix ho22 Tryd.func22 c22 rfl Tryd.ntmps22 Tryd.results22 ?_)
    simp (maxSteps := 4000000) +contextual (disch := first | omega | exact qdb_ok (by kernel_rfl) | exact okb_ok (by kernel_rfl)) only [bw1,bw2,bw3,bw4,bw5,bw6,bw7,bc0,bc1,bc2,bc3,bc4,bc5,bc6,bc7,bb0,setPs,AV.owns,AV.datF,AV.frz,AV.cpy,ifV,isEqB,nilV,nilX,AV.isNilS,AV.isNoRows,wk,dclo,datOf,binIs,addF,AV.isPtr,idxV,AV.isSl,AV.isSlice,AV.rows,ps,pv,extV,extS,AV.outs,AV.outF,packD,AV.dl,fieldV,fieldS,AV.cells?,AV.upr,AV.menc,AV.one,D.one,Value.oneCell',tagOf,AV.isApp,strV,strS,bolV,bolS,slcV,AV.isSlD,asrtS,AV.dcells,D.cells?,stcV,stcS,leafOk,eqDs,eqD,packA,D.val?,↓reduceIte,reduceCtorEq,Nat.reduceAdd,Nat.reduceSub,Nat.reduceMul,List.reduceReplicate,Nat.reduceLeDiff,Nat.reduceLT,Nat.reduceBEq,Nat.reduceEqDiff,Int.reduceNeg,Int.reduceEq,Int.reduceLE,Int.reduceLT,tfb,D.flat,D.flats,ctz22,O22_10,O22_12,O22_13,x22_27,x22_27_m1,x22_50,hg5, hp, c2, hWf]
    try rfl
  obtain ⟨hfo, hpl⟩ := pl_fo c2
  have hz : List.replicate t.groups.length [D.v (Value.int .i64 0)] = (cnL t.groups.length p 0).map ic := by
    rw [cnL_zero]; simp
  refine PF_nil (PF_start (O := O22) Ct22_ok hmix ho22 Tryd.func22 c22 rfl Tryd.ntmps22 Tryd.results22 ?_)
  simp (maxSteps := 4000000) +contextual (disch := first | omega | exact qdb_ok (by kernel_rfl) | exact okb_ok (by kernel_rfl)) only [bw1,bw2,bw3,bw4,bw5,bw6,bw7,bc0,bc1,bc2,bc3,bc4,bc5,bc6,bc7,bb0,setPs,AV.owns,AV.datF,AV.frz,AV.cpy,ifV,isEqB,nilV,nilX,AV.isNilS,AV.isNoRows,wk,dclo,datOf,binIs,addF,AV.isPtr,idxV,AV.isSl,AV.isSlice,AV.rows,ps,pv,extV,extS,AV.outs,AV.outF,packD,AV.dl,fieldV,fieldS,AV.cells?,AV.upr,AV.menc,AV.one,D.one,Value.oneCell',tagOf,AV.isApp,strV,strS,bolV,bolS,slcV,AV.isSlD,asrtS,AV.dcells,D.cells?,stcV,stcS,leafOk,eqDs,eqD,packA,D.val?,↓reduceIte,reduceCtorEq,Nat.reduceAdd,Nat.reduceSub,Nat.reduceMul,List.reduceReplicate,Nat.reduceLeDiff,Nat.reduceLT,Nat.reduceBEq,Nat.reduceEqDiff,Int.reduceNeg,Int.reduceEq,Int.reduceLE,Int.reduceLT,tfb,D.flat,D.flats,ctz22,O22_10,O22_12,O22_13,x22_27,x22_27_m1,x22_50,hg5, hp, c2, hz]
  refine ⟨by omega, by omega, by omega, ?_⟩
  refine loop_xu (O := O22) (tb := 0) Ct22_ok hmix (by kernel_rfl) (σ := Nat) (fun k => [(5, .own 16 3 1 ((cnL t.groups.length p k).map ic)), (6, .i k), (7, .any), (15, .any)]) (fun _ => []) (fun k => k ≤ p.length ∧ ∀ j, j < k → erR t p j = 0) (fun k => p.length - k) 0 ⟨Nat.zero_le _, fun j hj => by omega⟩ ?_ ?_
  · simp (maxSteps := 4000000) +contextual (disch := first | omega | exact qdb_ok (by kernel_rfl) | exact okb_ok (by kernel_rfl)) only [bw1,bw2,bw3,bw4,bw5,bw6,bw7,bc0,bc1,bc2,bc3,bc4,bc5,bc6,bc7,bb0,setPs,AV.owns,AV.datF,AV.frz,AV.cpy,ifV,isEqB,nilV,nilX,AV.isNilS,AV.isNoRows,wk,dclo,datOf,binIs,addF,AV.isPtr,idxV,AV.isSl,AV.isSlice,AV.rows,ps,pv,extV,extS,AV.outs,AV.outF,packD,AV.dl,fieldV,fieldS,AV.cells?,AV.upr,AV.menc,AV.one,D.one,Value.oneCell',tagOf,AV.isApp,strV,strS,bolV,bolS,slcV,AV.isSlD,asrtS,AV.dcells,D.cells?,stcV,stcS,leafOk,eqDs,eqD,packA,D.val?,↓reduceIte,reduceCtorEq,Nat.reduceAdd,Nat.reduceSub,Nat.reduceMul,List.reduceReplicate,Nat.reduceLeDiff,Nat.reduceLT,Nat.reduceBEq,Nat.reduceEqDiff,Int.reduceNeg,Int.reduceEq,Int.reduceLE,Int.reduceLT,tfb,D.flat,D.flats,ctz22,O22_10,O22_12,O22_13,x22_27,x22_27_m1,x22_50,eq_self]
    try rfl
  rintro k ⟨hk, hq⟩
  have hcl := cnL_len (n := t.groups.length) (p := p) (k := k)
  by_cases hlt : k < p.length
  · have hlt' : (k : Int) < p.length := by omega
    have hkh : k < t.hours.length := by omega
    have hkh' : (k : Int) < t.hours.length := by omega
    have hk0 : (0 : Int) ≤ k := by omega
    have hrp : (p.map ic).getD k [] = ic (p.getD k default) := Go.E.row_at hlt
    have hrh : (t.hours.map Hr.c).getD k [] = Hr.c (t.hours.getD k default) := Go.E.row_at hkh
    have hgb := hfo k hlt
    have hgo : erR t p k = 0 → ∀ q, q < k + 1 → erR t p q = 0 := fun h q hq' => by rcases Nat.lt_succ_iff_lt_or_eq.1 hq' with h' | rfl; exact hq q h'; exact h
    have hno : erR t p k ≠ 0 → W = false := fun h => hW.trans (good_no hlt h)
    by_cases d1 : p.getD k default < 0
    · have hs := cnL_no (n := t.groups.length) hlt d1
      have he := hgo (er_neg d1)
      simp (maxSteps := 4000000) +contextual (disch := first | omega | exact qdb_ok (by kernel_rfl) | exact okb_ok (by kernel_rfl)) only [bw1,bw2,bw3,bw4,bw5,bw6,bw7,bc0,bc1,bc2,bc3,bc4,bc5,bc6,bc7,bb0,setPs,AV.owns,AV.datF,AV.frz,AV.cpy,ifV,isEqB,nilV,nilX,AV.isNilS,AV.isNoRows,wk,dclo,datOf,binIs,addF,AV.isPtr,idxV,AV.isSl,AV.isSlice,AV.rows,ps,pv,extV,extS,AV.outs,AV.outF,packD,AV.dl,fieldV,fieldS,AV.cells?,AV.upr,AV.menc,AV.one,D.one,Value.oneCell',tagOf,AV.isApp,strV,strS,bolV,bolS,slcV,AV.isSlD,asrtS,AV.dcells,D.cells?,stcV,stcS,leafOk,eqDs,eqD,packA,D.val?,↓reduceIte,reduceCtorEq,Nat.reduceAdd,Nat.reduceSub,Nat.reduceMul,List.reduceReplicate,Nat.reduceLeDiff,Nat.reduceLT,Nat.reduceBEq,Nat.reduceEqDiff,Int.reduceNeg,Int.reduceEq,Int.reduceLE,Int.reduceLT,tfb,D.flat,D.flats,ctz22,O22_10,O22_12,O22_13,x22_27,x22_27_m1,x22_50,eq_self, hlt', hrp, hk0, d1]
      exact ⟨k + 1, ⟨⟨by omega, he⟩, by omega⟩, by rw [hs], rfl⟩
    obtain ⟨g, hgg⟩ : ∃ g : Nat, p.getD k default = (g : Int) := ⟨(p.getD k default).toNat, by omega⟩
    have hgn : g < t.groups.length := by omega
    have hgn' : (g : Int) < t.groups.length := by omega
    have hg0 : (0 : Int) ≤ (g : Int) := by omega
    have hgl : ¬ (g : Int) < 0 := by omega
    have hrg : (t.groups.map Gr.c).getD g [] = Gr.c (t.groups.getD g default) := Go.E.row_at hgn
    have hrw2 : ((cnL t.groups.length p k).map ic).getD g [] = ic (cnG p k (g : Int) : Int) := by
      rw [Go.E.row_at (by omega), cnL_at hgn]
    have hle := cnG_le (p := p) (k := k) (g := (g : Int))
    have hcy := cnG_yes hlt hgg
    have hs : ((cnL t.groups.length p k).map ic).set g [D.v (Value.int .i64 ((cnG p k (g : Int) : Int) + 1))] = (cnL t.groups.length p (k + 1)).map ic := by
      rw [cnL_yes hlt hgn hgg, List.map_set]
    have hcl2 := cnL_len (n := t.groups.length) (p := p) (k := k + 1)
    have hrw3 : ((cnL t.groups.length p (k + 1)).map ic).getD g [] = ic (cnG p (k + 1) (g : Int) : Int) := by
      rw [Go.E.row_at (by omega), cnL_at hgn]
    have hgr := tt_group ht hgn
    have hgd : 0 ≤ (t.groups.getD g default).days ∧ (t.groups.getD g default).days ≤ 127 := hgr.1
    have hhd : 0 ≤ (t.hours.getD k default).day ∧ (t.hours.getD k default).day ≤ 6 := (tt_hour ht hkh).1
    by_cases d2 : (t.groups.getD g default).most < (cnG p (k + 1) (g : Int) : Int)
    · have hWf := hno (er_lim hgg d2)
      simp (maxSteps := 4000000) +contextual (disch := first | omega | exact qdb_ok (by kernel_rfl) | exact okb_ok (by kernel_rfl)) only [bw1,bw2,bw3,bw4,bw5,bw6,bw7,bc0,bc1,bc2,bc3,bc4,bc5,bc6,bc7,bb0,setPs,AV.owns,AV.datF,AV.frz,AV.cpy,ifV,isEqB,nilV,nilX,AV.isNilS,AV.isNoRows,wk,dclo,datOf,binIs,addF,AV.isPtr,idxV,AV.isSl,AV.isSlice,AV.rows,ps,pv,extV,extS,AV.outs,AV.outF,packD,AV.dl,fieldV,fieldS,AV.cells?,AV.upr,AV.menc,AV.one,D.one,Value.oneCell',tagOf,AV.isApp,strV,strS,bolV,bolS,slcV,AV.isSlD,asrtS,AV.dcells,D.cells?,stcV,stcS,leafOk,eqDs,eqD,packA,D.val?,↓reduceIte,reduceCtorEq,Nat.reduceAdd,Nat.reduceSub,Nat.reduceMul,List.reduceReplicate,Nat.reduceLeDiff,Nat.reduceLT,Nat.reduceBEq,Nat.reduceEqDiff,Int.reduceNeg,Int.reduceEq,Int.reduceLE,Int.reduceLT,tfb,D.flat,D.flats,ctz22,O22_10,O22_12,O22_13,x22_27,x22_27_m1,x22_50,eq_self, hlt', hrp, hk0, hgg, hgl, hg0, hgn', hcl, hrw2, hs, hcl2, hrw3, hrg, d2, hWf]
      try (and_intros <;> first | omega | rfl)
    by_cases d3 : mayB (t.groups.getD g default) (t.hours.getD k default) = true
    case neg =>
      have hWf := hno (er_may hgg d3)
      simp (maxSteps := 4000000) +contextual (disch := first | omega | exact qdb_ok (by kernel_rfl) | exact okb_ok (by kernel_rfl)) only [bw1,bw2,bw3,bw4,bw5,bw6,bw7,bc0,bc1,bc2,bc3,bc4,bc5,bc6,bc7,bb0,setPs,AV.owns,AV.datF,AV.frz,AV.cpy,ifV,isEqB,nilV,nilX,AV.isNilS,AV.isNoRows,wk,dclo,datOf,binIs,addF,AV.isPtr,idxV,AV.isSl,AV.isSlice,AV.rows,ps,pv,extV,extS,AV.outs,AV.outF,packD,AV.dl,fieldV,fieldS,AV.cells?,AV.upr,AV.menc,AV.one,D.one,Value.oneCell',tagOf,AV.isApp,strV,strS,bolV,bolS,slcV,AV.isSlD,asrtS,AV.dcells,D.cells?,stcV,stcS,leafOk,eqDs,eqD,packA,D.val?,↓reduceIte,reduceCtorEq,Nat.reduceAdd,Nat.reduceSub,Nat.reduceMul,List.reduceReplicate,Nat.reduceLeDiff,Nat.reduceLT,Nat.reduceBEq,Nat.reduceEqDiff,Int.reduceNeg,Int.reduceEq,Int.reduceLE,Int.reduceLT,tfb,D.flat,D.flats,ctz22,O22_10,O22_12,O22_13,x22_27,x22_27_m1,x22_50,eq_self, hlt', hkh', hrp, hrh, hk0, hgg, hgl, hg0, hgn', hcl, hrw2, hs, hcl2, hrw3, hrg, hgd, hhd, d2, d3, hWf]
      try (and_intros <;> first | omega | rfl)
    by_cases z : k = 0
    · have hz1 : ((k : Int) == 0) = true := by rw [beq_iff_eq]; omega
      have he := hgo (er_fine hgg d3 d2 fun h => by have := (neB_iff.1 h.1).1; omega)
      simp (maxSteps := 4000000) +contextual (disch := first | omega | exact qdb_ok (by kernel_rfl) | exact okb_ok (by kernel_rfl)) only [bw1,bw2,bw3,bw4,bw5,bw6,bw7,bc0,bc1,bc2,bc3,bc4,bc5,bc6,bc7,bb0,setPs,AV.owns,AV.datF,AV.frz,AV.cpy,ifV,isEqB,nilV,nilX,AV.isNilS,AV.isNoRows,wk,dclo,datOf,binIs,addF,AV.isPtr,idxV,AV.isSl,AV.isSlice,AV.rows,ps,pv,extV,extS,AV.outs,AV.outF,packD,AV.dl,fieldV,fieldS,AV.cells?,AV.upr,AV.menc,AV.one,D.one,Value.oneCell',tagOf,AV.isApp,strV,strS,bolV,bolS,slcV,AV.isSlD,asrtS,AV.dcells,D.cells?,stcV,stcS,leafOk,eqDs,eqD,packA,D.val?,↓reduceIte,reduceCtorEq,Nat.reduceAdd,Nat.reduceSub,Nat.reduceMul,List.reduceReplicate,Nat.reduceLeDiff,Nat.reduceLT,Nat.reduceBEq,Nat.reduceEqDiff,Int.reduceNeg,Int.reduceEq,Int.reduceLE,Int.reduceLT,tfb,D.flat,D.flats,ctz22,O22_10,O22_12,O22_13,x22_27,x22_27_m1,x22_50,eq_self, hlt', hkh', hrp, hrh, hk0, hgg, hgl, hg0, hgn', hcl, hrw2, hs, hcl2, hrw3, hrg, hgd, hhd, d2, d3, hz1]
      repeat (refine And.intro (by omega) ?_)
      exact ⟨k + 1, ⟨⟨by omega, he⟩, by omega⟩, rfl, rfl⟩
    have hz1 : ((k : Int) == 0) = false := by rw [beq_eq_false_iff_ne]; omega
    have y1 : ((k : Int) - 1).toNat = k - 1 := by omega
    have y2 : (0 : Int) ≤ (k : Int) - 1 := by omega
    have y3 : (k : Int) - 1 < p.length := by omega
    have y4 : (k : Int) - 1 < t.hours.length := by omega
    have hrp2 : (p.map ic).getD (k - 1) [] = ic (p.getD (k - 1) default) := Go.E.row_at (by omega)
    have hrh2 : (t.hours.map Hr.c).getD (k - 1) [] = Hr.c (t.hours.getD (k - 1) default) := Go.E.row_at (by omega)
    by_cases d4 : p.getD (k - 1) default < 0
    · have he := hgo (er_fine hgg d3 d2 fun h => by omega)
      simp (maxSteps := 4000000) +contextual (disch := first | omega | exact qdb_ok (by kernel_rfl) | exact okb_ok (by kernel_rfl)) only [bw1,bw2,bw3,bw4,bw5,bw6,bw7,bc0,bc1,bc2,bc3,bc4,bc5,bc6,bc7,bb0,setPs,AV.owns,AV.datF,AV.frz,AV.cpy,ifV,isEqB,nilV,nilX,AV.isNilS,AV.isNoRows,wk,dclo,datOf,binIs,addF,AV.isPtr,idxV,AV.isSl,AV.isSlice,AV.rows,ps,pv,extV,extS,AV.outs,AV.outF,packD,AV.dl,fieldV,fieldS,AV.cells?,AV.upr,AV.menc,AV.one,D.one,Value.oneCell',tagOf,AV.isApp,strV,strS,bolV,bolS,slcV,AV.isSlD,asrtS,AV.dcells,D.cells?,stcV,stcS,leafOk,eqDs,eqD,packA,D.val?,↓reduceIte,reduceCtorEq,Nat.reduceAdd,Nat.reduceSub,Nat.reduceMul,List.reduceReplicate,Nat.reduceLeDiff,Nat.reduceLT,Nat.reduceBEq,Nat.reduceEqDiff,Int.reduceNeg,Int.reduceEq,Int.reduceLE,Int.reduceLT,tfb,D.flat,D.flats,ctz22,O22_10,O22_12,O22_13,x22_27,x22_27_m1,x22_50,eq_self, hlt', hkh', hrp, hrh, hk0, hgg, hgl, hg0, hgn', hcl, hrw2, hs, hcl2, hrw3, hrg, hgd, hhd, d2, d3, hz1, y1, y2, y3, y4, hrp2, hrh2, d4]
      repeat (refine And.intro (by omega) ?_)
      exact ⟨k + 1, ⟨⟨by omega, he⟩, by omega⟩, rfl, rfl⟩
    by_cases d5 : p.getD (k - 1) default = (g : Int)
    · have d5b : (p.getD (k - 1) default == (g : Int)) = true := by simpa using d5
      have he := hgo (er_fine hgg d3 d2 fun h => h.2.2 d5)
      simp (maxSteps := 4000000) +contextual (disch := first | omega | exact qdb_ok (by kernel_rfl) | exact okb_ok (by kernel_rfl)) only [bw1,bw2,bw3,bw4,bw5,bw6,bw7,bc0,bc1,bc2,bc3,bc4,bc5,bc6,bc7,bb0,setPs,AV.owns,AV.datF,AV.frz,AV.cpy,ifV,isEqB,nilV,nilX,AV.isNilS,AV.isNoRows,wk,dclo,datOf,binIs,addF,AV.isPtr,idxV,AV.isSl,AV.isSlice,AV.rows,ps,pv,extV,extS,AV.outs,AV.outF,packD,AV.dl,fieldV,fieldS,AV.cells?,AV.upr,AV.menc,AV.one,D.one,Value.oneCell',tagOf,AV.isApp,strV,strS,bolV,bolS,slcV,AV.isSlD,asrtS,AV.dcells,D.cells?,stcV,stcS,leafOk,eqDs,eqD,packA,D.val?,↓reduceIte,reduceCtorEq,Nat.reduceAdd,Nat.reduceSub,Nat.reduceMul,List.reduceReplicate,Nat.reduceLeDiff,Nat.reduceLT,Nat.reduceBEq,Nat.reduceEqDiff,Int.reduceNeg,Int.reduceEq,Int.reduceLE,Int.reduceLT,tfb,D.flat,D.flats,ctz22,O22_10,O22_12,O22_13,x22_27,x22_27_m1,x22_50,eq_self, hlt', hkh', hrp, hrh, hk0, hgg, hgl, hg0, hgn', hcl, hrw2, hs, hcl2, hrw3, hrg, hgd, hhd, d2, d3, hz1, y1, y2, y3, y4, hrp2, hrh2, d4, d5b]
      repeat (refine And.intro (by omega) ?_)
      exact ⟨k + 1, ⟨⟨by omega, he⟩, by omega⟩, rfl, rfl⟩
    have d5b : (p.getD (k - 1) default == (g : Int)) = false := by simpa using d5
    by_cases d6 : (t.hours.getD (k - 1) default).day = (t.hours.getD k default).day
    case neg =>
      have d6b : ((t.hours.getD (k - 1) default).day != (t.hours.getD k default).day) = true := by simpa using d6
      have he := hgo (er_fine hgg d3 d2 fun h => d6 (neB_iff.1 h.1).2.1.symm)
      simp (maxSteps := 4000000) +contextual (disch := first | omega | exact qdb_ok (by kernel_rfl) | exact okb_ok (by kernel_rfl)) only [bw1,bw2,bw3,bw4,bw5,bw6,bw7,bc0,bc1,bc2,bc3,bc4,bc5,bc6,bc7,bb0,setPs,AV.owns,AV.datF,AV.frz,AV.cpy,ifV,isEqB,nilV,nilX,AV.isNilS,AV.isNoRows,wk,dclo,datOf,binIs,addF,AV.isPtr,idxV,AV.isSl,AV.isSlice,AV.rows,ps,pv,extV,extS,AV.outs,AV.outF,packD,AV.dl,fieldV,fieldS,AV.cells?,AV.upr,AV.menc,AV.one,D.one,Value.oneCell',tagOf,AV.isApp,strV,strS,bolV,bolS,slcV,AV.isSlD,asrtS,AV.dcells,D.cells?,stcV,stcS,leafOk,eqDs,eqD,packA,D.val?,↓reduceIte,reduceCtorEq,Nat.reduceAdd,Nat.reduceSub,Nat.reduceMul,List.reduceReplicate,Nat.reduceLeDiff,Nat.reduceLT,Nat.reduceBEq,Nat.reduceEqDiff,Int.reduceNeg,Int.reduceEq,Int.reduceLE,Int.reduceLT,tfb,D.flat,D.flats,ctz22,O22_10,O22_12,O22_13,x22_27,x22_27_m1,x22_50,eq_self, hlt', hkh', hrp, hrh, hk0, hgg, hgl, hg0, hgn', hcl, hrw2, hs, hcl2, hrw3, hrg, hgd, hhd, d2, d3, hz1, y1, y2, y3, y4, hrp2, hrh2, d4, d5b, d6b]
      repeat (refine And.intro (by omega) ?_)
      exact ⟨k + 1, ⟨⟨by omega, he⟩, by omega⟩, rfl, rfl⟩
    have d6b : ((t.hours.getD (k - 1) default).day != (t.hours.getD k default).day) = false := by simpa using d6
    have hh1 := tt_hour ht hkh
    have hh2 := tt_hour ht (i := k - 1) (by omega)
    by_cases d7 : (t.hours.getD k default).b - (t.hours.getD (k - 1) default).e < t.res
    · have hWf := hno (er_nr hgg ⟨neB_iff.2 ⟨by omega, d6.symm, d7⟩, by omega, d5⟩)
      simp (maxSteps := 4000000) +contextual (disch := first | omega | exact qdb_ok (by kernel_rfl) | exact okb_ok (by kernel_rfl)) only [bw1,bw2,bw3,bw4,bw5,bw6,bw7,bc0,bc1,bc2,bc3,bc4,bc5,bc6,bc7,bb0,setPs,AV.owns,AV.datF,AV.frz,AV.cpy,ifV,isEqB,nilV,nilX,AV.isNilS,AV.isNoRows,wk,dclo,datOf,binIs,addF,AV.isPtr,idxV,AV.isSl,AV.isSlice,AV.rows,ps,pv,extV,extS,AV.outs,AV.outF,packD,AV.dl,fieldV,fieldS,AV.cells?,AV.upr,AV.menc,AV.one,D.one,Value.oneCell',tagOf,AV.isApp,strV,strS,bolV,bolS,slcV,AV.isSlD,asrtS,AV.dcells,D.cells?,stcV,stcS,leafOk,eqDs,eqD,packA,D.val?,↓reduceIte,reduceCtorEq,Nat.reduceAdd,Nat.reduceSub,Nat.reduceMul,List.reduceReplicate,Nat.reduceLeDiff,Nat.reduceLT,Nat.reduceBEq,Nat.reduceEqDiff,Int.reduceNeg,Int.reduceEq,Int.reduceLE,Int.reduceLT,tfb,D.flat,D.flats,ctz22,O22_10,O22_12,O22_13,x22_27,x22_27_m1,x22_50,eq_self, hlt', hkh', hrp, hrh, hk0, hgg, hgl, hg0, hgn', hcl, hrw2, hs, hcl2, hrw3, hrg, hgd, hhd, d2, d3, hz1, y1, y2, y3, y4, hrp2, hrh2, d4, d5b, d6b, d7, hWf]
      try (and_intros <;> first | omega | rfl)
    · have he := hgo (er_fine hgg d3 d2 fun h => d7 (neB_iff.1 h.1).2.2)
      simp (maxSteps := 4000000) +contextual (disch := first | omega | exact qdb_ok (by kernel_rfl) | exact okb_ok (by kernel_rfl)) only [bw1,bw2,bw3,bw4,bw5,bw6,bw7,bc0,bc1,bc2,bc3,bc4,bc5,bc6,bc7,bb0,setPs,AV.owns,AV.datF,AV.frz,AV.cpy,ifV,isEqB,nilV,nilX,AV.isNilS,AV.isNoRows,wk,dclo,datOf,binIs,addF,AV.isPtr,idxV,AV.isSl,AV.isSlice,AV.rows,ps,pv,extV,extS,AV.outs,AV.outF,packD,AV.dl,fieldV,fieldS,AV.cells?,AV.upr,AV.menc,AV.one,D.one,Value.oneCell',tagOf,AV.isApp,strV,strS,bolV,bolS,slcV,AV.isSlD,asrtS,AV.dcells,D.cells?,stcV,stcS,leafOk,eqDs,eqD,packA,D.val?,↓reduceIte,reduceCtorEq,Nat.reduceAdd,Nat.reduceSub,Nat.reduceMul,List.reduceReplicate,Nat.reduceLeDiff,Nat.reduceLT,Nat.reduceBEq,Nat.reduceEqDiff,Int.reduceNeg,Int.reduceEq,Int.reduceLE,Int.reduceLT,tfb,D.flat,D.flats,ctz22,O22_10,O22_12,O22_13,x22_27,x22_27_m1,x22_50,eq_self, hlt', hkh', hrp, hrh, hk0, hgg, hgl, hg0, hgn', hcl, hrw2, hs, hcl2, hrw3, hrg, hgd, hhd, d2, d3, hz1, y1, y2, y3, y4, hrp2, hrh2, d4, d5b, d6b, d7]
      repeat (refine And.intro (by omega) ?_)
      exact ⟨k + 1, ⟨⟨by omega, he⟩, by omega⟩, rfl, rfl⟩
  obtain rfl : k = p.length := by omega
  have hWt : W = true := hW.trans (good_iff.2 ⟨c2, hq⟩)
  simp (maxSteps := 4000000) +contextual (disch := first | omega | exact qdb_ok (by kernel_rfl) | exact okb_ok (by kernel_rfl)) only [bw1,bw2,bw3,bw4,bw5,bw6,bw7,bc0,bc1,bc2,bc3,bc4,bc5,bc6,bc7,bb0,setPs,AV.owns,AV.datF,AV.frz,AV.cpy,ifV,isEqB,nilV,nilX,AV.isNilS,AV.isNoRows,wk,dclo,datOf,binIs,addF,AV.isPtr,idxV,AV.isSl,AV.isSlice,AV.rows,ps,pv,extV,extS,AV.outs,AV.outF,packD,AV.dl,fieldV,fieldS,AV.cells?,AV.upr,AV.menc,AV.one,D.one,Value.oneCell',tagOf,AV.isApp,strV,strS,bolV,bolS,slcV,AV.isSlD,asrtS,AV.dcells,D.cells?,stcV,stcS,leafOk,eqDs,eqD,packA,D.val?,↓reduceIte,reduceCtorEq,Nat.reduceAdd,Nat.reduceSub,Nat.reduceMul,List.reduceReplicate,Nat.reduceLeDiff,Nat.reduceLT,Nat.reduceBEq,Nat.reduceEqDiff,Int.reduceNeg,Int.reduceEq,Int.reduceLE,Int.reduceLT,tfb,D.flat,D.flats,ctz22,O22_10,O22_12,O22_13,x22_27,x22_27_m1,x22_50,eq_self, Int.lt_irrefl, hWt]
def ent22 (args : List AV) (K : AV → List AV → Sto → Prop) (e : List AV) (s : Sto) : Prop := ent (α := (Tt) × (List Int)) (fun aa => [.agg aa.1.c, .sl 1 (aa.2.map ic)]) (fun aa => ttOk aa.1 = true ∧ aa.2.length ≤ 1000) (fun aa => .b (goodB aa.1 aa.2)) args K e s
theorem ent22_ok {args : List AV} {K : AV → List AV → Sto → Prop} {Q : Kt} {e : List AV} {s : Sto} (h : ent22 args K e s) : pcall Tryd.prog 22 args K Q e s := ent_ok (fun aa h => pf22 aa.1 aa.2 h) h
theorem eq22 {t : Tt} {p : List Int} {KK : AV → List AV → Sto → Prop} {ee : List AV} {ss : Sto} : ent22 [.d (.agg t.c), .d (.sl 1 (p.map ic))] KK ee ss = ((ttOk t = true ∧ p.length ≤ 1000) ∧ KK (.d (.b (goodB t p))) ee ss) := by
  unfold ent22; rw [ent_iff (t, p) (by intro b h; simpa [Prod.ext_iff, and_assoc, Int.ofNat_inj, ints_inj, hrs_inj, grs_inj, hr_inj, gr_inj, tt_inj] using h) rfl]; simp
theorem eqo22 {t : Tt} {p : List Int} {g1 el1 : Nat} {KK : AV → List AV → Sto → Prop} {ee : List AV} {ss : Sto} : ent22 [.d (.agg t.c), .own g1 el1 1 (p.map ic)] KK ee ss = ((ttOk t = true ∧ p.length ≤ 1000) ∧ (.b (goodB t p) : D).flat = true ∧ KK (.d (.b (goodB t p))) ee ss) := by
  unfold ent22; rw [ent_iff (t, p) (by intro b h; simpa [Prod.ext_iff, and_assoc, Int.ofNat_inj, ints_inj, hrs_inj, grs_inj, hr_inj, gr_inj, tt_inj] using h) rfl]; simp
end Go.Proofs.YtofbbkacihnjdaaDoor
