/- A part of the proof that the last text ends: what functions of the program do, told by plain data. -/
import Derived.Test.YtofbbkacihnjdaaDoorHE
set_option linter.unusedVariables false
set_option linter.unusedSimpArgs false
namespace Go.Proofs.YtofbbkacihnjdaaDoor
open Go Go.E Go.Maps
set_option maxRecDepth 100000
set_option maxHeartbeats 16000000
def fairI (t : Tt) (a b : List Int) : Int := cmpL (isort (hasL t a)) (isort (hasL t b))
theorem ckN_spec {t : Tt} {p : List Int} : ∀ k i, i + k = p.length → ((ckN t p k i).2.2 = 0 ∧ (ckN t p k i).1 = hasL t p ∧ (ckN t p k i).2.1 = p.length ∧ ∀ j, i ≤ j → j < p.length → erR t p j = 0) ∨ ∃ n : Nat, i ≤ n ∧ n < p.length ∧ ckN t p k i = ([], (n : Int), erR t p n) ∧ erR t p n ≠ 0 ∧ ∀ j, i ≤ j → j < n → erR t p j = 0
  | 0, i, h => .inl ⟨rfl, rfl, rfl, fun j h1 h2 => by omega⟩
  | k + 1, i, h => by
    unfold ckN
    by_cases c : erR t p i = 0
    · rw [if_pos c]
      rcases ckN_spec (t := t) (p := p) k (i + 1) (by omega) with ⟨h1, h2, h3, h4⟩ | ⟨n, h1, h2, h3, h4, h5⟩
      · refine .inl ⟨h1, h2, h3, fun j h5 h6 => ?_⟩
        rcases Nat.lt_or_eq_of_le h5 with h7 | h7
        · exact h4 j h7 h6
        · subst h7; exact c
      · refine .inr ⟨n, by omega, h2, h3, h4, fun j h6 h7 => ?_⟩
        rcases Nat.lt_or_eq_of_le h6 with h8 | h8
        · exact h5 j h8 h7
        · subst h8; exact c
    · rw [if_neg c]
      exact .inr ⟨i, Nat.le_refl _, by omega, rfl, c, fun j h1 h2 => by omega⟩
def goP (t : Tt) (p : List Int) : Prop := plOk t p = true ∧ ∀ j, j < p.length → erR t p j = 0
theorem ck_ok {t : Tt} {p : List Int} (ht : ttOk t = true) : (ckR t p).2.2 = 0 ↔ goP t p := by
  unfold ckR
  rw [if_pos ht]
  by_cases c : plOk t p = true
  · rw [if_pos c]
    rcases ckN_spec (t := t) (p := p) p.length 0 (by omega) with ⟨h1, h2, h3, h4⟩ | ⟨n, h1, h2, h3, h4, h5⟩
    · exact ⟨fun _ => ⟨c, fun j hj => h4 j (Nat.zero_le _) hj⟩, fun _ => h1⟩
    · rw [h3]
      exact ⟨fun h => absurd h h4, fun h => absurd (h.2 n h2) h4⟩
  · rw [if_neg c]
    exact ⟨fun h => (by cases h), fun h => absurd h.1 c⟩
theorem ck_val {t : Tt} {p : List Int} (ht : ttOk t = true) (h : (ckR t p).2.2 = 0) : (ckR t p).1 = hasL t p ∧ (ckR t p).2.1 = p.length ∧ p.length = t.hours.length := by
  have hg := (ck_ok ht).1 h
  unfold ckR at h ⊢
  rw [if_pos ht, if_pos hg.1] at h ⊢
  rcases ckN_spec (t := t) (p := p) p.length 0 (by omega) with ⟨h1, h2, h3, h4⟩ | ⟨n, h1, h2, h3, h4, h5⟩
  · exact ⟨h2, h3, (pl_fo hg.1).2⟩
  · rw [h3] at h; exact absurd h h4
def cpR (t : Tt) (a b : List Int) : Int × Int := if (ckR t a).2.2 = 0 then (if (ckR t b).2.2 = 0 then (fairI t a b, 0) else (0, (ckR t b).2.2)) else (0, (ckR t a).2.2)
def padL (p : List Int) (n : Nat) : List Int := p ++ List.replicate (n - p.length) (-1)
theorem padL_step {p : List Int} {k : Nat} : (p ++ List.replicate k (-1 : Int)).map ic ++ [[D.v (Value.int .i64 (-1))]] = (p ++ List.replicate (k + 1) (-1 : Int)).map ic := by
  rw [List.replicate_succ', ← List.append_assoc, List.map_append (l₁ := p ++ _)]; rfl
def O28 : Nat → Sch := fun id => .done
theorem ho28 : Tryd.f28.body.map (okO O28) = some true := by kernel_rfl
def Cf28 : Nat → List AV → (AV → List AV → Sto → Prop) → Kt → List AV → Sto → Prop := fun f args K Q e s => match f with
  | _ => False
def Ct28 : CT := { f := Cf28, y := noYld, z := fun d => false }
theorem ctz28 {d : Nat} : CT.z Ct28 d = (false) := id rfl
theorem Ct28_ok : Ct28.ok Tryd.prog := ok_of_f (fun f args K Q e s h => by
  have h : Cf28 f args K Q e s := h
  unfold Cf28 at h; split at h
  · exact h.elim) (fun _ _ _ _ _ _ _ _ _ h => h)
theorem c28 : callable Tryd.prog 28 = true := by kernel_rfl
theorem pf28 (p : List Int) (n : Nat) (h : p.length ≤ 1000 ∧ n ≤ 1000) : PFn Tryd.prog 28 [.sl 1 (p.map ic), .i (n : Int)] (fun zz => zz = .ret (.sl 1 ((padL p n).map ic))) := by
  obtain ⟨hp, hn⟩ := h
  refine PFn_nil (PFn_start (O := O28) Ct28_ok hmix ho28 Tryd.func28 c28 rfl Tryd.ntmps28 Tryd.results28 ?_)
  simp (maxSteps := 4000000) +contextual (disch := first | omega | exact qdb_ok (by kernel_rfl) | exact okb_ok (by kernel_rfl)) only [bw1,bw2,bw3,bw4,bw5,bw6,bw7,bc0,bc1,bc2,bc3,bc4,bc5,bc6,bc7,bb0,setPs,AV.owns,AV.datF,AV.frz,AV.cpy,ifV,isEqB,nilV,nilX,AV.isNilS,AV.isNoRows,wk,dclo,datOf,binIs,addF,AV.isPtr,idxV,AV.isSl,AV.isSlice,AV.rows,ps,pv,extV,extS,AV.outs,AV.outF,packD,AV.dl,fieldV,fieldS,AV.cells?,AV.upr,AV.menc,AV.one,D.one,Value.oneCell',tagOf,AV.isApp,strV,strS,bolV,bolS,slcV,AV.isSlD,asrtS,AV.dcells,D.cells?,stcV,stcS,leafOk,eqDs,eqD,packA,D.val?,↓reduceIte,reduceCtorEq,Nat.reduceAdd,Nat.reduceSub,Nat.reduceMul,List.reduceReplicate,Nat.reduceLeDiff,Nat.reduceLT,Nat.reduceBEq,Nat.reduceEqDiff,Int.reduceNeg,Int.reduceEq,Int.reduceLE,Int.reduceLT,tfb,qd_Rn,AV.outN,D.flat,D.flats,n_retn,n_retr,n_retp,ctz28]
  refine ⟨by omega, by omega, ?_⟩
  refine loop_xu (O := O28) (tb := 0) Ct28_ok hmix (by kernel_rfl) (σ := Nat) (fun k => [(5, .own 7 3 1 ((p ++ List.replicate k (-1 : Int)).map ic)), (6, .any), (8, .any)]) (fun _ => []) (fun k => k ≤ n - p.length) (fun k => n - p.length - k) 0 (Nat.zero_le _) ?_ ?_
  · have hz0 : (p ++ List.replicate 0 (-1 : Int)).map ic = p.map ic := by simp
    simp (maxSteps := 4000000) +contextual (disch := first | omega | exact qdb_ok (by kernel_rfl) | exact okb_ok (by kernel_rfl)) only [bw1,bw2,bw3,bw4,bw5,bw6,bw7,bc0,bc1,bc2,bc3,bc4,bc5,bc6,bc7,bb0,setPs,AV.owns,AV.datF,AV.frz,AV.cpy,ifV,isEqB,nilV,nilX,AV.isNilS,AV.isNoRows,wk,dclo,datOf,binIs,addF,AV.isPtr,idxV,AV.isSl,AV.isSlice,AV.rows,ps,pv,extV,extS,AV.outs,AV.outF,packD,AV.dl,fieldV,fieldS,AV.cells?,AV.upr,AV.menc,AV.one,D.one,Value.oneCell',tagOf,AV.isApp,strV,strS,bolV,bolS,slcV,AV.isSlD,asrtS,AV.dcells,D.cells?,stcV,stcS,leafOk,eqDs,eqD,packA,D.val?,↓reduceIte,reduceCtorEq,Nat.reduceAdd,Nat.reduceSub,Nat.reduceMul,List.reduceReplicate,Nat.reduceLeDiff,Nat.reduceLT,Nat.reduceBEq,Nat.reduceEqDiff,Int.reduceNeg,Int.reduceEq,Int.reduceLE,Int.reduceLT,tfb,qd_Rn,AV.outN,D.flat,D.flats,n_retn,n_retr,n_retp,ctz28,eq_self, hz0]
    try rfl
  rintro k hk
  have hl : (p ++ List.replicate k (-1 : Int)).length = p.length + k := by simp
  by_cases hlt : p.length + k < n
  · have hlt' : (p.length : Int) + (k : Int) < n := by omega
    have hs := padL_step (p := p) (k := k)
    simp (maxSteps := 4000000) +contextual (disch := first | omega | exact qdb_ok (by kernel_rfl) | exact okb_ok (by kernel_rfl)) only [bw1,bw2,bw3,bw4,bw5,bw6,bw7,bc0,bc1,bc2,bc3,bc4,bc5,bc6,bc7,bb0,setPs,AV.owns,AV.datF,AV.frz,AV.cpy,ifV,isEqB,nilV,nilX,AV.isNilS,AV.isNoRows,wk,dclo,datOf,binIs,addF,AV.isPtr,idxV,AV.isSl,AV.isSlice,AV.rows,ps,pv,extV,extS,AV.outs,AV.outF,packD,AV.dl,fieldV,fieldS,AV.cells?,AV.upr,AV.menc,AV.one,D.one,Value.oneCell',tagOf,AV.isApp,strV,strS,bolV,bolS,slcV,AV.isSlD,asrtS,AV.dcells,D.cells?,stcV,stcS,leafOk,eqDs,eqD,packA,D.val?,↓reduceIte,reduceCtorEq,Nat.reduceAdd,Nat.reduceSub,Nat.reduceMul,List.reduceReplicate,Nat.reduceLeDiff,Nat.reduceLT,Nat.reduceBEq,Nat.reduceEqDiff,Int.reduceNeg,Int.reduceEq,Int.reduceLE,Int.reduceLT,tfb,qd_Rn,AV.outN,D.flat,D.flats,n_retn,n_retr,n_retp,ctz28,eq_self, hl, Int.natCast_add, hlt', hs]
    repeat (refine And.intro (by omega) ?_)
    exact ⟨k + 1, ⟨by omega, by omega⟩, rfl⟩
  obtain rfl : k = n - p.length := by omega
  have hlt' : ¬ ((p ++ List.replicate (n - p.length) (-1 : Int)).length : Int) < n := by rw [hl]; omega
  have hfl := ics_flat (p ++ List.replicate (n - p.length) (-1 : Int))
  simp (maxSteps := 4000000) +contextual (disch := first | omega | exact qdb_ok (by kernel_rfl) | exact okb_ok (by kernel_rfl)) only [bw1,bw2,bw3,bw4,bw5,bw6,bw7,bc0,bc1,bc2,bc3,bc4,bc5,bc6,bc7,bb0,setPs,AV.owns,AV.datF,AV.frz,AV.cpy,ifV,isEqB,nilV,nilX,AV.isNilS,AV.isNoRows,wk,dclo,datOf,binIs,addF,AV.isPtr,idxV,AV.isSl,AV.isSlice,AV.rows,ps,pv,extV,extS,AV.outs,AV.outF,packD,AV.dl,fieldV,fieldS,AV.cells?,AV.upr,AV.menc,AV.one,D.one,Value.oneCell',tagOf,AV.isApp,strV,strS,bolV,bolS,slcV,AV.isSlD,asrtS,AV.dcells,D.cells?,stcV,stcS,leafOk,eqDs,eqD,packA,D.val?,↓reduceIte,reduceCtorEq,Nat.reduceAdd,Nat.reduceSub,Nat.reduceMul,List.reduceReplicate,Nat.reduceLeDiff,Nat.reduceLT,Nat.reduceBEq,Nat.reduceEqDiff,Int.reduceNeg,Int.reduceEq,Int.reduceLE,Int.reduceLT,tfb,qd_Rn,AV.outN,D.flat,D.flats,n_retn,n_retr,n_retp,ctz28,eq_self, hlt', hfl]
  try rfl
def goodB (t : Tt) (p : List Int) : Bool := plOk t p && (List.range p.length).all fun i => decide (erR t p i = 0)
theorem good_iff {t : Tt} {p : List Int} : goodB t p = true ↔ goP t p := by
  unfold goodB goP
  rw [Bool.and_eq_true, List.all_eq_true]
  exact ⟨fun h => ⟨h.1, fun j hj => of_decide_eq_true (h.2 j (List.mem_range.2 hj))⟩, fun h => ⟨h.1, fun j hj => decide_eq_true (h.2 j (List.mem_range.1 hj))⟩⟩
def ent28 (args : List AV) (K : AV → List AV → Sto → Prop) (e : List AV) (s : Sto) : Prop := entn (α := (List Int) × (Nat)) (fun aa => [.sl 1 (aa.1.map ic), .i (aa.2 : Int)]) (fun aa => aa.1.length ≤ 1000 ∧ aa.2 ≤ 1000) (fun aa => .sl 1 ((padL aa.1 aa.2).map ic)) args K e s
theorem ent28_ok {args : List AV} {K : AV → List AV → Sto → Prop} {Q : Kt} {e : List AV} {s : Sto} (h : ent28 args K e s) : pcall Tryd.prog 28 args K Q e s := entn_ok (fun aa h => pf28 aa.1 aa.2 h) h
theorem eq28 {p : List Int} {n : Nat} {KK : AV → List AV → Sto → Prop} {ee : List AV} {ss : Sto} : ent28 [.d (.sl 1 (p.map ic)), .d (.i (n : Int))] KK ee ss = ((p.length ≤ 1000 ∧ n ≤ 1000) ∧ KK (.d (.sl 1 ((padL p n).map ic))) ee ss) := by
  unfold ent28; rw [entn_iff (p, n) (by intro b h; simpa [Prod.ext_iff, and_assoc, Int.ofNat_inj, ints_inj, hrs_inj, grs_inj, hr_inj, gr_inj, tt_inj] using h) rfl] <;> simp
theorem eqo28 {p : List Int} {n : Nat} {g1 el1 : Nat} {KK : AV → List AV → Sto → Prop} {ee : List AV} {ss : Sto} : ent28 [.own g1 el1 1 (p.map ic), .d (.i (n : Int))] KK ee ss = ((p.length ≤ 1000 ∧ n ≤ 1000) ∧ KK (.d (.sl 1 ((padL p n).map ic))) ee ss) := by
  unfold ent28; rw [entn_iff (p, n) (by intro b h; simpa [Prod.ext_iff, and_assoc, Int.ofNat_inj, ints_inj, hrs_inj, grs_inj, hr_inj, gr_inj, tt_inj] using h) rfl] <;> simp
end Go.Proofs.YtofbbkacihnjdaaDoor
