/- A part of the proof that the last text ends: what functions of the program do, told by plain data. -/
import Derived.Test.YtofbbkacihnjdaaDoorHE
set_option linter.unusedVariables false
set_option linter.unusedSimpArgs false
namespace Go.Proofs.YtofbbkacihnjdaaDoor
open Go Go.E Go.Maps
set_option maxRecDepth 100000
set_option maxHeartbeats 16000000
def fairI (t : Tt) (a b : List Int) : Int := cmpL (isort (hasL t a)) (isort (hasL t b))
theorem ckN_spec {t : Tt} {p : List Int} : ∀ k i, i + k = p.length → ((ckN t p k i).2.2 = 0 ∧ (ckN t p k i).1 = hasL t p ∧ (ckN t p k i).2.1 = p.length ∧ ∀ j, i ≤ j → j < p.length → erR t p j = 0) ∨ ∃ n : Nat, i ≤ n ∧ n < p.length ∧ ckN t p k i = ([], (n : Int), erR t p n) ∧ erR t p n ≠ 0 ∧ ∀ j, i ≤ j → j < n → erR t p j = 0
  | 0, i, h => .inl ⟨rfl, rfl, rfl, fun j h1 h2 => by omega⟩
  | k + 1, i, h => by
    unfold ckN
    by_cases c : erR t p i = 0
    · rw [if_pos c]
      rcases ckN_spec (t := t) (p := p) k (i + 1) (by omega) with ⟨h1, h2, h3, h4⟩ | ⟨n, h1, h2, h3, h4, h5⟩
      · refine .inl ⟨h1, h2, h3, fun j h5 h6 => ?_⟩
        rcases Nat.lt_or_eq_of_le h5 with h7 | h7
        · exact h4 j h7 h6
        · subst h7; exact c
      · refine .inr ⟨n, by omega, h2, h3, h4, fun j h6 h7 => ?_⟩
        rcases Nat.lt_or_eq_of_le h6 with h8 | h8
        · exact h5 j h8 h7
        · subst h8; exact c
    · rw [if_neg c]
      exact .inr ⟨i, Nat.le_refl _, by omega, rfl, c, fun j h1 h2 => by omega⟩
def goP (t : Tt) (p : List Int) : Prop := plOk t p = true ∧ ∀ j, j < p.length → erR t p j = 0
theorem ck_ok {t : Tt} {p : List Int} (ht : ttOk t = true) : (ckR t p).2.2 = 0 ↔ goP t p := by
  unfold ckR
  rw [if_pos ht]
  by_cases c : plOk t p = true
  · rw [if_pos c]
    rcases ckN_spec (t := t) (p := p) p.length 0 (by omega) with ⟨h1, h2, h3, h4⟩ | ⟨n, h1, h2, h3, h4, h5⟩
    · exact ⟨fun _ => ⟨c, fun j hj => h4 j (Nat.zero_le _) hj⟩, fun _ => h1⟩
    · rw [h3]
      exact ⟨fun h => absurd h h4, fun h => absurd (h.2 n h2) h4⟩
  · rw [if_neg c]
    exact ⟨fun h => (by cases h), fun h => absurd h.1 c⟩
theorem ck_val {t : Tt} {p : List Int} (ht : ttOk t = true) (h : (ckR t p).2.2 = 0) : (ckR t p).1 = hasL t p ∧ (ckR t p).2.1 = p.length ∧ p.length = t.hours.length := by
  have hg := (ck_ok ht).1 h
  unfold ckR at h ⊢
  rw [if_pos ht, if_pos hg.1] at h ⊢
  rcases ckN_spec (t := t) (p := p) p.length 0 (by omega) with ⟨h1, h2, h3, h4⟩ | ⟨n, h1, h2, h3, h4, h5⟩
  · exact ⟨h2, h3, (pl_fo hg.1).2⟩
  · rw [h3] at h; exact absurd h h4
def cpR (t : Tt) (a b : List Int) : Int × Int := if (ckR t a).2.2 = 0 then (if (ckR t b).2.2 = 0 then (fairI t a b, 0) else (0, (ckR t b).2.2)) else (0, (ckR t a).2.2)
theorem ck_tt {t : Tt} {p : List Int} (h : (ckR t p).2.2 = 0) : ttOk t = true := by
  unfold ckR at h
  by_cases c : ttOk t = true
  · exact c
  · rw [if_neg c] at h; cases h
def O13 : Nat → Sch := fun id => .done
theorem ho13 : Tryd.f13.body.map (okO O13) = some true := by kernel_rfl
def Cf13 : Nat → List AV → (AV → List AV → Sto → Prop) → Kt → List AV → Sto → Prop := fun f args K Q e s => match f with
  | 11 => ent11 args K e s
  | 36 => ent36 args K e s
  | _ => False
def Ct13 : CT := { f := Cf13, y := noYld, z := fun d => false }
theorem ctz13 {d : Nat} : CT.z Ct13 d = (false) := id rfl
theorem Ct13_ok : Ct13.ok Tryd.prog := ok_of_f (fun f args K Q e s h => by
  have h : Cf13 f args K Q e s := h
  unfold Cf13 at h; split at h
  · exact ent11_ok h
  · exact ent36_ok h
  · exact h.elim) (fun _ _ _ _ _ _ _ _ _ h => h)
theorem x13_11 {t : Tt} {p : List Int} {KK : AV → List AV → Sto → Prop} {QQ : Kt} {ii : At KK} {jj : At QQ} {ee : List AV} {ss : Sto} : xC Ct13 11 [.d (.agg t.c), .d (.sl 1 (p.map ic))] KK QQ ii jj ee ss = (((t.hours.length ≤ 1000 ∧ t.groups.length ≤ 1000) ∧ p.length ≤ 1000) ∧ KK (.d (.tup [.sl 1 ((ckR t p).1.map ic), .i (ckR t p).2.1, .i (ckR t p).2.2])) ee ss) := eq11
theorem x13_11_m1 {t : Tt} {p : List Int} {g1 el1 : Nat} {KK : AV → List AV → Sto → Prop} {QQ : Kt} {ii : At KK} {jj : At QQ} {ee : List AV} {ss : Sto} : xC Ct13 11 [.d (.agg t.c), .own g1 el1 1 (p.map ic)] KK QQ ii jj ee ss = (((t.hours.length ≤ 1000 ∧ t.groups.length ≤ 1000) ∧ p.length ≤ 1000) ∧ (.tup [.sl 1 ((ckR t p).1.map ic), .i (ckR t p).2.1, .i (ckR t p).2.2] : D).flat = true ∧ KK (.d (.tup [.sl 1 ((ckR t p).1.map ic), .i (ckR t p).2.1, .i (ckR t p).2.2])) ee ss) := eqo11
theorem x13_36 {a : List Int} {b : List Int} {KK : AV → List AV → Sto → Prop} {QQ : Kt} {ii : At KK} {jj : At QQ} {ee : List AV} {ss : Sto} : xC Ct13 36 [.d (.sl 1 (a.map ic)), .d (.sl 1 (b.map ic))] KK QQ ii jj ee ss = ((a.length ≤ 1000 ∧ b.length = a.length) ∧ KK (.d (.i (cmpL (isort a) (isort b)))) ee ss) := eq36
theorem x13_36_m1 {a : List Int} {b : List Int} {g1 el1 : Nat} {KK : AV → List AV → Sto → Prop} {QQ : Kt} {ii : At KK} {jj : At QQ} {ee : List AV} {ss : Sto} : xC Ct13 36 [.own g1 el1 1 (a.map ic), .d (.sl 1 (b.map ic))] KK QQ ii jj ee ss = ((a.length ≤ 1000 ∧ b.length = a.length) ∧ (.i (cmpL (isort a) (isort b)) : D).flat = true ∧ KK (.d (.i (cmpL (isort a) (isort b)))) ee ss) := by
  show ent36 _ _ _ _ = _
  unfold ent36; rw [ent_iff (a, b) (by intro b h; simpa [Prod.ext_iff, and_assoc, Int.ofNat_inj, ints_inj, hrs_inj, grs_inj, hr_inj, gr_inj, tt_inj] using h) rfl]; simp
theorem x13_36_m2 {a : List Int} {b : List Int} {g1 el1 : Nat} {KK : AV → List AV → Sto → Prop} {QQ : Kt} {ii : At KK} {jj : At QQ} {ee : List AV} {ss : Sto} : xC Ct13 36 [.d (.sl 1 (a.map ic)), .own g1 el1 1 (b.map ic)] KK QQ ii jj ee ss = ((a.length ≤ 1000 ∧ b.length = a.length) ∧ (.i (cmpL (isort a) (isort b)) : D).flat = true ∧ KK (.d (.i (cmpL (isort a) (isort b)))) ee ss) := by
  show ent36 _ _ _ _ = _
  unfold ent36; rw [ent_iff (a, b) (by intro b h; simpa [Prod.ext_iff, and_assoc, Int.ofNat_inj, ints_inj, hrs_inj, grs_inj, hr_inj, gr_inj, tt_inj] using h) rfl]; simp
theorem x13_36_m3 {a : List Int} {b : List Int} {g1 el1 : Nat} {g2 el2 : Nat} {KK : AV → List AV → Sto → Prop} {QQ : Kt} {ii : At KK} {jj : At QQ} {ee : List AV} {ss : Sto} : xC Ct13 36 [.own g1 el1 1 (a.map ic), .own g2 el2 1 (b.map ic)] KK QQ ii jj ee ss = ((a.length ≤ 1000 ∧ b.length = a.length) ∧ (.i (cmpL (isort a) (isort b)) : D).flat = true ∧ KK (.d (.i (cmpL (isort a) (isort b)))) ee ss) := eqo36
theorem c13 : callable Tryd.prog 13 = true := by kernel_rfl
theorem pf13 (t : Tt) (a b : List Int) (h : (t.hours.length ≤ 1000 ∧ t.groups.length ≤ 1000) ∧ a.length ≤ 1000 ∧ b.length ≤ 1000) : PF Tryd.prog 13 [.agg t.c, .sl 1 (a.map ic), .sl 1 (b.map ic)] (fun zz => zz = .ret (.tup [.i (cpR t a b).1, .i (cpR t a b).2])) := by
  obtain ⟨hsz, ha, hb⟩ := h
  unfold cpR
  by_cases c1 : (ckR t a).2.2 = 0
  case neg =>
    have c1b : ((ckR t a).2.2 != 0) = true := by simpa using c1
    rw [if_neg c1]
    refine PF_nil (PF_start (O := O13) Ct13_ok hmix ho13 Tryd.func13 c13 rfl Tryd.ntmps13 Tryd.results13 ?_)
    simp (maxSteps := 4000000) +contextual (disch := first | omega | exact qdb_ok (by kernel_rfl) | exact okb_ok (by kernel_rfl)) only [bw1,bw2,bw3,bw4,bw5,bw6,bw7,bc0,bc1,bc2,bc3,bc4,bc5,bc6,bc7,bb0,setPs,AV.owns,AV.datF,AV.frz,AV.cpy,ifV,isEqB,nilV,nilX,AV.isNilS,AV.isNoRows,wk,dclo,datOf,binIs,addF,AV.isPtr,idxV,AV.isSl,AV.isSlice,AV.rows,ps,pv,extV,extS,AV.outs,AV.outF,packD,AV.dl,fieldV,fieldS,AV.cells?,AV.upr,AV.menc,AV.one,D.one,Value.oneCell',tagOf,AV.isApp,strV,strS,bolV,bolS,slcV,AV.isSlD,asrtS,AV.dcells,D.cells?,stcV,stcS,leafOk,eqDs,eqD,packA,D.val?,↓reduceIte,reduceCtorEq,Nat.reduceAdd,Nat.reduceSub,Nat.reduceMul,List.reduceReplicate,Nat.reduceLeDiff,Nat.reduceLT,Nat.reduceBEq,Nat.reduceEqDiff,Int.reduceNeg,Int.reduceEq,Int.reduceLE,Int.reduceLT,tfb,n_retn,n_retr,n_retp,qd_Rn,AV.outN,D.flat,D.flats,ctz13,x13_11,x13_11_m1,x13_36,x13_36_m1,x13_36_m2,x13_36_m3,hsz, ha, c1b]
    try rfl
  have c1b : ((ckR t a).2.2 != 0) = false := by simpa using c1
  rw [if_pos c1]
  by_cases c2 : (ckR t b).2.2 = 0
  case neg =>
    have c2b : ((ckR t b).2.2 != 0) = true := by simpa using c2
    rw [if_neg c2]
    refine PF_nil (PF_start (O := O13) Ct13_ok hmix ho13 Tryd.func13 c13 rfl Tryd.ntmps13 Tryd.results13 ?_)
    simp (maxSteps := 4000000) +contextual (disch := first | omega | exact qdb_ok (by kernel_rfl) | exact okb_ok (by kernel_rfl)) only [bw1,bw2,bw3,bw4,bw5,bw6,bw7,bc0,bc1,bc2,bc3,bc4,bc5,bc6,bc7,bb0,setPs,AV.owns,AV.datF,AV.frz,AV.cpy,ifV,isEqB,nilV,nilX,AV.isNilS,AV.isNoRows,wk,dclo,datOf,binIs,addF,AV.isPtr,idxV,AV.isSl,AV.isSlice,AV.rows,ps,pv,extV,extS,AV.outs,AV.outF,packD,AV.dl,fieldV,fieldS,AV.cells?,AV.upr,AV.menc,AV.one,D.one,Value.oneCell',tagOf,AV.isApp,strV,strS,bolV,bolS,slcV,AV.isSlD,asrtS,AV.dcells,D.cells?,stcV,stcS,leafOk,eqDs,eqD,packA,D.val?,↓reduceIte,reduceCtorEq,Nat.reduceAdd,Nat.reduceSub,Nat.reduceMul,List.reduceReplicate,Nat.reduceLeDiff,Nat.reduceLT,Nat.reduceBEq,Nat.reduceEqDiff,Int.reduceNeg,Int.reduceEq,Int.reduceLE,Int.reduceLT,tfb,n_retn,n_retr,n_retp,qd_Rn,AV.outN,D.flat,D.flats,ctz13,x13_11,x13_11_m1,x13_36,x13_36_m1,x13_36_m2,x13_36_m3,hsz, ha, hb, c1b, c2b]
    try rfl
  have c2b : ((ckR t b).2.2 != 0) = false := by simpa using c2
  rw [if_pos c2]
  have ht := ck_tt c1
  have hbig := tt_hours ht
  have va := (ck_val ht c1).1
  have vb := (ck_val ht c2).1
  have hl1 : (hasL t a).length ≤ 1000 := by rw [hasL_len]; omega
  have hl2 : (hasL t b).length = (hasL t a).length := by rw [hasL_len, hasL_len]
  refine PF_nil (PF_start (O := O13) Ct13_ok hmix ho13 Tryd.func13 c13 rfl Tryd.ntmps13 Tryd.results13 ?_)
  simp (maxSteps := 4000000) +contextual (disch := first | omega | exact qdb_ok (by kernel_rfl) | exact okb_ok (by kernel_rfl)) only [bw1,bw2,bw3,bw4,bw5,bw6,bw7,bc0,bc1,bc2,bc3,bc4,bc5,bc6,bc7,bb0,setPs,AV.owns,AV.datF,AV.frz,AV.cpy,ifV,isEqB,nilV,nilX,AV.isNilS,AV.isNoRows,wk,dclo,datOf,binIs,addF,AV.isPtr,idxV,AV.isSl,AV.isSlice,AV.rows,ps,pv,extV,extS,AV.outs,AV.outF,packD,AV.dl,fieldV,fieldS,AV.cells?,AV.upr,AV.menc,AV.one,D.one,Value.oneCell',tagOf,AV.isApp,strV,strS,bolV,bolS,slcV,AV.isSlD,asrtS,AV.dcells,D.cells?,stcV,stcS,leafOk,eqDs,eqD,packA,D.val?,↓reduceIte,reduceCtorEq,Nat.reduceAdd,Nat.reduceSub,Nat.reduceMul,List.reduceReplicate,Nat.reduceLeDiff,Nat.reduceLT,Nat.reduceBEq,Nat.reduceEqDiff,Int.reduceNeg,Int.reduceEq,Int.reduceLE,Int.reduceLT,tfb,n_retn,n_retr,n_retp,qd_Rn,AV.outN,D.flat,D.flats,ctz13,x13_11,x13_11_m1,x13_36,x13_36_m1,x13_36_m2,x13_36_m3,hsz, ha, hb, c1b, c2b, va, vb, hl1, hl2]
  try (and_intros <;> first | omega | rfl)
def ent13 (args : List AV) (K : AV → List AV → Sto → Prop) (e : List AV) (s : Sto) : Prop := ent (α := (Tt) × (List Int) × (List Int)) (fun aa => [.agg aa.1.c, .sl 1 (aa.2.1.map ic), .sl 1 (aa.2.2.map ic)]) (fun aa => (aa.1.hours.length ≤ 1000 ∧ aa.1.groups.length ≤ 1000) ∧ aa.2.1.length ≤ 1000 ∧ aa.2.2.length ≤ 1000) (fun aa => .tup [.i (cpR aa.1 aa.2.1 aa.2.2).1, .i (cpR aa.1 aa.2.1 aa.2.2).2]) args K e s
theorem ent13_ok {args : List AV} {K : AV → List AV → Sto → Prop} {Q : Kt} {e : List AV} {s : Sto} (h : ent13 args K e s) : pcall Tryd.prog 13 args K Q e s := ent_ok (fun aa h => pf13 aa.1 aa.2.1 aa.2.2 h) h
theorem eq13 {t : Tt} {a : List Int} {b : List Int} {KK : AV → List AV → Sto → Prop} {ee : List AV} {ss : Sto} : ent13 [.d (.agg t.c), .d (.sl 1 (a.map ic)), .d (.sl 1 (b.map ic))] KK ee ss = (((t.hours.length ≤ 1000 ∧ t.groups.length ≤ 1000) ∧ a.length ≤ 1000 ∧ b.length ≤ 1000) ∧ KK (.d (.tup [.i (cpR t a b).1, .i (cpR t a b).2])) ee ss) := by
  unfold ent13; rw [ent_iff (t, a, b) (by intro b h; simpa [Prod.ext_iff, and_assoc, Int.ofNat_inj, ints_inj, hrs_inj, grs_inj, hr_inj, gr_inj, tt_inj] using h) rfl]; simp
theorem eqo13 {t : Tt} {a : List Int} {b : List Int} {g1 el1 : Nat} {g2 el2 : Nat} {KK : AV → List AV → Sto → Prop} {ee : List AV} {ss : Sto} : ent13 [.d (.agg t.c), .own g1 el1 1 (a.map ic), .own g2 el2 1 (b.map ic)] KK ee ss = (((t.hours.length ≤ 1000 ∧ t.groups.length ≤ 1000) ∧ a.length ≤ 1000 ∧ b.length ≤ 1000) ∧ (.tup [.i (cpR t a b).1, .i (cpR t a b).2] : D).flat = true ∧ KK (.d (.tup [.i (cpR t a b).1, .i (cpR t a b).2])) ee ss) := by
  unfold ent13; rw [ent_iff (t, a, b) (by intro b h; simpa [Prod.ext_iff, and_assoc, Int.ofNat_inj, ints_inj, hrs_inj, grs_inj, hr_inj, gr_inj, tt_inj] using h) rfl]; simp
end Go.Proofs.YtofbbkacihnjdaaDoor
