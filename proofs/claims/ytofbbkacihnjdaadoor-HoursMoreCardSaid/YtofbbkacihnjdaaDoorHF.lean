/- A part of the proof that the last text ends: what functions of the program do, told by plain data. -/
import Derived.Test.YtofbbkacihnjdaaDoorHE
set_option linter.unusedVariables false
set_option linter.unusedSimpArgs false
namespace Go.Proofs.YtofbbkacihnjdaaDoor
open Go Go.E Go.Maps
set_option maxRecDepth 100000
set_option maxHeartbeats 16000000
def fairI (t : Tt) (a b : List Int) : Int := cmpL (isort (hasL t a)) (isort (hasL t b))
theorem ckN_spec {t : Tt} {p : List Int} : ∀ k i, i + k = p.length → ((ckN t p k i).2.2 = 0 ∧ (ckN t p k i).1 = hasL t p ∧ (ckN t p k i).2.1 = p.length ∧ ∀ j, i ≤ j → j < p.length → erR t p j = 0) ∨ ∃ n : Nat, i ≤ n ∧ n < p.length ∧ ckN t p k i = ([], (n : Int), erR t p n) ∧ erR t p n ≠ 0 ∧ ∀ j, i ≤ j → j < n → erR t p j = 0
  | 0, i, h => .inl ⟨rfl, rfl, rfl, fun j h1 h2 => by omega⟩
  | k + 1, i, h => by
    unfold ckN
    by_cases c : erR t p i = 0
    · rw [if_pos c]
      rcases ckN_spec (t := t) (p := p) k (i + 1) (by omega) with ⟨h1, h2, h3, h4⟩ | ⟨n, h1, h2, h3, h4, h5⟩
      · refine .inl ⟨h1, h2, h3, fun j h5 h6 => ?_⟩
        rcases Nat.lt_or_eq_of_le h5 with h7 | h7
        · exact h4 j h7 h6
        · subst h7; exact c
      · refine .inr ⟨n, by omega, h2, h3, h4, fun j h6 h7 => ?_⟩
        rcases Nat.lt_or_eq_of_le h6 with h8 | h8
        · exact h5 j h8 h7
        · subst h8; exact c
    · rw [if_neg c]
      exact .inr ⟨i, Nat.le_refl _, by omega, rfl, c, fun j h1 h2 => by omega⟩
def goP (t : Tt) (p : List Int) : Prop := plOk t p = true ∧ ∀ j, j < p.length → erR t p j = 0
theorem ck_ok {t : Tt} {p : List Int} (ht : ttOk t = true) : (ckR t p).2.2 = 0 ↔ goP t p := by
  unfold ckR
  rw [if_pos ht]
  by_cases c : plOk t p = true
  · rw [if_pos c]
    rcases ckN_spec (t := t) (p := p) p.length 0 (by omega) with ⟨h1, h2, h3, h4⟩ | ⟨n, h1, h2, h3, h4, h5⟩
    · exact ⟨fun _ => ⟨c, fun j hj => h4 j (Nat.zero_le _) hj⟩, fun _ => h1⟩
    · rw [h3]
      exact ⟨fun h => absurd h h4, fun h => absurd (h.2 n h2) h4⟩
  · rw [if_neg c]
    exact ⟨fun h => (by cases h), fun h => absurd h.1 c⟩
theorem ck_val {t : Tt} {p : List Int} (ht : ttOk t = true) (h : (ckR t p).2.2 = 0) : (ckR t p).1 = hasL t p ∧ (ckR t p).2.1 = p.length ∧ p.length = t.hours.length := by
  have hg := (ck_ok ht).1 h
  unfold ckR at h ⊢
  rw [if_pos ht, if_pos hg.1] at h ⊢
  rcases ckN_spec (t := t) (p := p) p.length 0 (by omega) with ⟨h1, h2, h3, h4⟩ | ⟨n, h1, h2, h3, h4, h5⟩
  · exact ⟨h2, h3, (pl_fo hg.1).2⟩
  · rw [h3] at h; exact absurd h h4
def cpR (t : Tt) (a b : List Int) : Int × Int := if (ckR t a).2.2 = 0 then (if (ckR t b).2.2 = 0 then (fairI t a b, 0) else (0, (ckR t b).2.2)) else (0, (ckR t a).2.2)
def O25 : Nat → Sch := fun id => if id = 5 then .one 0 (.one 1 (.one 2 (.one 3 (.one 4 (.one 5 (.one 6 (.one 7 (.one 8 (.one 9 (.one 10 (.one 11 (.one 12 (.one 13 (.one 14 (.done))))))))))))))) else .done
theorem O25_5 : O25 5 = .one 0 (.one 1 (.one 2 (.one 3 (.one 4 (.one 5 (.one 6 (.one 7 (.one 8 (.one 9 (.one 10 (.one 11 (.one 12 (.one 13 (.one 14 (.done))))))))))))))) := rfl
theorem ho25 : Tryd.f25.body.map (okO O25) = some true := by kernel_rfl
def Cf25 : Nat → List AV → (AV → List AV → Sto → Prop) → Kt → List AV → Sto → Prop := fun f args K Q e s => match f with
  | 26 => ent26 args K e s
  | 29 => ent29 args K e s
  | _ => False
def Ct25 : CT := { f := Cf25, y := noYld, z := fun d => false }
theorem ctz25 {d : Nat} : CT.z Ct25 d = (false) := id rfl
theorem Ct25_ok : Ct25.ok Tryd.prog := ok_of_f (fun f args K Q e s h => by
  have h : Cf25 f args K Q e s := h
  unfold Cf25 at h; split at h
  · exact ent26_ok h
  · exact ent29_ok h
  · exact h.elim) (fun _ _ _ _ _ _ _ _ _ h => h)
theorem x25_29 {t : Tt} {p : List Int} {f : Nat} {KK : AV → List AV → Sto → Prop} {QQ : Kt} {ii : At KK} {jj : At QQ} {ee : List AV} {ss : Sto} : xC Ct25 29 [.d (.agg t.c), .d (.sl 1 (p.map ic)), .d (.i (f : Int))] KK QQ ii jj ee ss = (((t.groups.length ≤ 1000 ∧ f ≤ p.length ∧ p.length ≤ 1000) ∧ ∀ j, j < f → -1 ≤ p.getD j default ∧ p.getD j default < t.groups.length) ∧ KK (.own 29001 3 1 ((cnL t.groups.length p f).map ic)) (ee.map (AV.kill 29001)) (ss.kill 29001)) := eq29
theorem x25_26 {l : List Int} {KK : AV → List AV → Sto → Prop} {QQ : Kt} {ii : At KK} {jj : At QQ} {ee : List AV} {ss : Sto} : xC Ct25 26 [.d (.sl 1 (l.map ic))] KK QQ ii jj ee ss = ((l.length ≤ 1000) ∧ KK (.d (.sl 1 ((isort l).map ic))) ee ss) := eq26
theorem x25_26_m1 {l : List Int} {g1 el1 : Nat} {KK : AV → List AV → Sto → Prop} {QQ : Kt} {ii : At KK} {jj : At QQ} {ee : List AV} {ss : Sto} : xC Ct25 26 [.own g1 el1 1 (l.map ic)] KK QQ ii jj ee ss = ((l.length ≤ 1000) ∧ KK (.d (.sl 1 ((isort l).map ic))) ee ss) := eqo26
theorem c25 : callable Tryd.prog 25 = true := by kernel_rfl
theorem pf25 (t : Tt) (p : List Int) (h : ttOk t = true ∧ p.length ≤ 1000 ∧ foP t p) : PF Tryd.prog 25 [.agg t.c, .sl 1 (p.map ic)] (fun zz => zz = .ret (.sl 1 ((isort (hasL t p)).map ic))) := by
  obtain ⟨ht, hp, hfo⟩ := h
  have hbig := tt_hours ht
  have hpre : (t.groups.length ≤ 1000 ∧ p.length ≤ p.length ∧ p.length ≤ 1000) ∧ ∀ j, j < p.length → -1 ≤ p.getD j default ∧ p.getD j default < t.groups.length := ⟨⟨by omega, by omega, hp⟩, hfo⟩
  refine PF_nil (PF_start (O := O25) Ct25_ok hmix ho25 Tryd.func25 c25 rfl Tryd.ntmps25 Tryd.results25 ?_)
  simp (maxSteps := 4000000) +contextual (disch := first | omega | exact qdb_ok (by kernel_rfl) | exact okb_ok (by kernel_rfl)) only [bw1,bw2,bw3,bw4,bw5,bw6,bw7,bc0,bc1,bc2,bc3,bc4,bc5,bc6,bc7,bb0,setPs,AV.owns,AV.datF,AV.frz,AV.cpy,ifV,isEqB,nilV,nilX,AV.isNilS,AV.isNoRows,wk,dclo,datOf,binIs,addF,AV.isPtr,idxV,AV.isSl,AV.isSlice,AV.rows,ps,pv,extV,extS,AV.outs,AV.outF,packD,AV.dl,fieldV,fieldS,AV.cells?,AV.upr,AV.menc,AV.one,D.one,Value.oneCell',tagOf,AV.isApp,strV,strS,bolV,bolS,slcV,AV.isSlD,asrtS,AV.dcells,D.cells?,stcV,stcS,leafOk,eqDs,eqD,packA,D.val?,↓reduceIte,reduceCtorEq,Nat.reduceAdd,Nat.reduceSub,Nat.reduceMul,List.reduceReplicate,Nat.reduceLeDiff,Nat.reduceLT,Nat.reduceBEq,Nat.reduceEqDiff,Int.reduceNeg,Int.reduceEq,Int.reduceLE,Int.reduceLT,tfb,qd_Rn,AV.outN,D.flat,D.flats,ctz25,O25_5,x25_29,x25_26,x25_26_m1,hpre]
  refine ⟨fun _ _ => trivial, ?_⟩
  refine loop_xu (O := O25) (tb := 0) Ct25_ok hmix (by kernel_rfl) (σ := Nat) (fun k => [(5, .own 29001 3 1 ((hasN t p k).map ic)), (6, .i k), (11, .any)]) (fun _ => []) (fun k => k ≤ t.groups.length) (fun k => t.groups.length - k) 0 (Nat.zero_le _) ?_ ?_
  · have hz := hasN_zero (t := t) (p := p)
    simp (maxSteps := 4000000) +contextual (disch := first | omega | exact qdb_ok (by kernel_rfl) | exact okb_ok (by kernel_rfl)) only [bw1,bw2,bw3,bw4,bw5,bw6,bw7,bc0,bc1,bc2,bc3,bc4,bc5,bc6,bc7,bb0,setPs,AV.owns,AV.datF,AV.frz,AV.cpy,ifV,isEqB,nilV,nilX,AV.isNilS,AV.isNoRows,wk,dclo,datOf,binIs,addF,AV.isPtr,idxV,AV.isSl,AV.isSlice,AV.rows,ps,pv,extV,extS,AV.outs,AV.outF,packD,AV.dl,fieldV,fieldS,AV.cells?,AV.upr,AV.menc,AV.one,D.one,Value.oneCell',tagOf,AV.isApp,strV,strS,bolV,bolS,slcV,AV.isSlD,asrtS,AV.dcells,D.cells?,stcV,stcS,leafOk,eqDs,eqD,packA,D.val?,↓reduceIte,reduceCtorEq,Nat.reduceAdd,Nat.reduceSub,Nat.reduceMul,List.reduceReplicate,Nat.reduceLeDiff,Nat.reduceLT,Nat.reduceBEq,Nat.reduceEqDiff,Int.reduceNeg,Int.reduceEq,Int.reduceLE,Int.reduceLT,tfb,qd_Rn,AV.outN,D.flat,D.flats,ctz25,O25_5,x25_29,x25_26,x25_26_m1,eq_self, hz]
    try rfl
  rintro k hk
  have hlen := hasN_len (t := t) (p := p) (k := k)
  by_cases hlt : k < t.groups.length
  · have hlt' : (k : Int) < t.groups.length := by omega
    have hrw : ((hasN t p k).map ic).getD k [] = ic (cnG p p.length (k : Int) : Int) := by
      rw [Go.E.row_at (by omega), hasN_at hlt, if_neg (by omega), Int.add_zero]
    have hrg : (t.groups.map Gr.c).getD k [] = Gr.c (t.groups.getD k default) := Go.E.row_at hlt
    have hgr := tt_group ht hlt
    have hle := cnG_le (p := p) (k := p.length) (g := (k : Int))
    have hs : ((hasN t p k).map ic).set k [D.v (Value.int .i64 ((cnG p p.length (k : Int) : Int) + (t.groups.getD k default).cred))] = (hasN t p (k + 1)).map ic := by
      rw [hasN_succ hlt, List.map_set]
    have hk0 : (0 : Int) ≤ k := by omega
    simp (maxSteps := 4000000) +contextual (disch := first | omega | exact qdb_ok (by kernel_rfl) | exact okb_ok (by kernel_rfl)) only [bw1,bw2,bw3,bw4,bw5,bw6,bw7,bc0,bc1,bc2,bc3,bc4,bc5,bc6,bc7,bb0,setPs,AV.owns,AV.datF,AV.frz,AV.cpy,ifV,isEqB,nilV,nilX,AV.isNilS,AV.isNoRows,wk,dclo,datOf,binIs,addF,AV.isPtr,idxV,AV.isSl,AV.isSlice,AV.rows,ps,pv,extV,extS,AV.outs,AV.outF,packD,AV.dl,fieldV,fieldS,AV.cells?,AV.upr,AV.menc,AV.one,D.one,Value.oneCell',tagOf,AV.isApp,strV,strS,bolV,bolS,slcV,AV.isSlD,asrtS,AV.dcells,D.cells?,stcV,stcS,leafOk,eqDs,eqD,packA,D.val?,↓reduceIte,reduceCtorEq,Nat.reduceAdd,Nat.reduceSub,Nat.reduceMul,List.reduceReplicate,Nat.reduceLeDiff,Nat.reduceLT,Nat.reduceBEq,Nat.reduceEqDiff,Int.reduceNeg,Int.reduceEq,Int.reduceLE,Int.reduceLT,tfb,qd_Rn,AV.outN,D.flat,D.flats,ctz25,O25_5,x25_29,x25_26,x25_26_m1,eq_self, hlt', hlen, hrw, hrg, hs, hk0]
    repeat (refine And.intro (by omega) ?_)
    exact ⟨k + 1, ⟨by omega, by omega⟩, rfl, rfl⟩
  obtain rfl : k = t.groups.length := by omega
  have hfl := ics_flat (isort (hasN t p t.groups.length))
  have hln2 : (hasN t p t.groups.length).length ≤ 1000 := by omega
  simp (maxSteps := 4000000) +contextual (disch := first | omega | exact qdb_ok (by kernel_rfl) | exact okb_ok (by kernel_rfl)) only [bw1,bw2,bw3,bw4,bw5,bw6,bw7,bc0,bc1,bc2,bc3,bc4,bc5,bc6,bc7,bb0,setPs,AV.owns,AV.datF,AV.frz,AV.cpy,ifV,isEqB,nilV,nilX,AV.isNilS,AV.isNoRows,wk,dclo,datOf,binIs,addF,AV.isPtr,idxV,AV.isSl,AV.isSlice,AV.rows,ps,pv,extV,extS,AV.outs,AV.outF,packD,AV.dl,fieldV,fieldS,AV.cells?,AV.upr,AV.menc,AV.one,D.one,Value.oneCell',tagOf,AV.isApp,strV,strS,bolV,bolS,slcV,AV.isSlD,asrtS,AV.dcells,D.cells?,stcV,stcS,leafOk,eqDs,eqD,packA,D.val?,↓reduceIte,reduceCtorEq,Nat.reduceAdd,Nat.reduceSub,Nat.reduceMul,List.reduceReplicate,Nat.reduceLeDiff,Nat.reduceLT,Nat.reduceBEq,Nat.reduceEqDiff,Int.reduceNeg,Int.reduceEq,Int.reduceLE,Int.reduceLT,tfb,qd_Rn,AV.outN,D.flat,D.flats,ctz25,O25_5,x25_29,x25_26,x25_26_m1,eq_self, Int.lt_irrefl, hlen, hln2, hfl, hasL]
  try (and_intros <;> first | omega | rfl)
end Go.Proofs.YtofbbkacihnjdaaDoor
