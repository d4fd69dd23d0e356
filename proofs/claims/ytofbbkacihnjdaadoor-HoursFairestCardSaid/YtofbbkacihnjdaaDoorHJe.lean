/- A part of the proof that the last text ends: what functions of the program do, told by plain data. -/
import Derived.Test.YtofbbkacihnjdaaDoorHZ
import Derived.Test.YtofbbkacihnjdaaDoorHKi
import Derived.Test.YtofbbkacihnjdaaDoorEc
set_option linter.unusedVariables false
set_option linter.unusedSimpArgs false
namespace Go.Proofs.YtofbbkacihnjdaaDoor.M4
open Go Go.E Go.Maps
set_option maxRecDepth 100000
set_option maxHeartbeats 4000000
def O4 : Nat → Sch := fun id => .done
theorem ho4 : Tryd.f4.body.map (okO O4) = some true := by kernel_rfl
def Cf4 : Nat → List AV → (AV → List AV → Sto → Prop) → Kt → List AV → Sto → Prop := fun f args K Q e s => match f with
  | 9 => sp9 args K e s
  | 14 => ent14 args K e s
  | 15 => ent15 args K e s
  | 16 => sp16 args K e s
  | 17 => ent17 args K e s
  | 18 => sp18 args K e s
  | 19 => ent19 args K e s
  | _ => False
def Ct4 : CT := { f := Cf4, y := noYld, z := fun d => false }
theorem Ct4_ok : Ct4.ok Tryd.prog := ok_of_f (fun f args K Q e s h => by
  have h : Cf4 f args K Q e s := h
  unfold Cf4 at h; split at h
  · exact sp9_ok h
  · exact ent14_ok h
  · exact ent15_ok h
  · exact sp16_ok h
  · exact ent17_ok h
  · exact sp18_ok h
  · exact ent19_ok h
  · exact h.elim) (fun _ _ _ _ _ _ _ _ _ h => h)
theorem x4_14 {a : List Int} {b : List Int} {KK : AV → List AV → Sto → Prop} {QQ : Kt} {ii : At KK} {jj : At QQ} {ee : List AV} {ss : Sto} : xC Ct4 14 [.d (.sl 1 (a.map ic)), .d (.sl 1 (b.map ic))] KK QQ ii jj ee ss = ((a.length ≤ 1000) ∧ KK (.d (.b (decide (a = b)))) ee ss) := eq14
theorem x4_15 {t : Tt} {m : Int} {KK : AV → List AV → Sto → Prop} {QQ : Kt} {ii : At KK} {jj : At QQ} {ee : List AV} {ss : Sto} : xC Ct4 15 [.d (.agg t.c), .d (.i m)] KK QQ ii jj ee ss = (KK (.d (.b (slT t m))) ee ss) := eq15
theorem x4_17 {t : Tt} {KK : AV → List AV → Sto → Prop} {QQ : Kt} {ii : At KK} {jj : At QQ} {ee : List AV} {ss : Sto} : xC Ct4 17 [.d (.agg t.c)] KK QQ ii jj ee ss = (((t.hours.length ≤ 1000 ∧ t.groups.length ≤ 1000)) ∧ KK (.d (.tup [.sl 1 ((frQ t).1.map ic), .i (frQ t).2])) ee ss) := eq17
theorem x4_19 {t : Tt} {p : List Int} {KK : AV → List AV → Sto → Prop} {QQ : Kt} {ii : At KK} {jj : At QQ} {ee : List AV} {ss : Sto} : xC Ct4 19 [.d (.agg t.c), .d (.sl 1 (p.map ic))] KK QQ ii jj ee ss = (((t.hours.length ≤ 1000 ∧ t.groups.length ≤ 1000) ∧ p.length ≤ 1000) ∧ KK (.d (.tup [.sl 1 ((hiQ t p).1.map ic), .i (hiQ t p).2])) ee ss) := eq19
theorem c4 : callable Tryd.prog 4 = true := by kernel_rfl
theorem fr_len {t : Tt} : (frR t).1.length ≤ 1000 := by
  by_cases ht : ttOk t = true
  · obtain ⟨p, h1, h2, _⟩ := fr_law ht
    rw [h1]; exact plan_len h2 ht
  · unfold frR; rw [if_neg ht]; exact Nat.zero_le _
theorem hi_len {t : Tt} {p : List Int} : (hiR t p).1.length ≤ 1000 := by
  unfold hiR
  by_cases ht : ttOk t = true
  · rw [if_pos ht]
    split
    · have hX : 2 ^ t.groups.length ≤ 2 ^ 5 := Nat.pow_le_pow_right (by decide) (tt_hours ht).2.1
      have := hs_len (t := t) (p := p) (2 ^ t.groups.length) (by omega)
      show (hsN t p (2 ^ t.groups.length)).length ≤ 1000
      omega
    · exact Nat.zero_le _
  · rw [if_neg ht]; exact Nat.zero_le _
theorem sl_sz {t : Tt} {m : Int} (h : ¬ slT t m = true) : t.groups.length ≤ 8 ∧ t.hours.length ≤ 14 := by
  unfold slT lgT at h
  simp only [Bool.or_eq_true, decide_eq_true_eq, not_or] at h
  omega
theorem pf4 (t : Tt) (p : List Int) : PFG Tryd.prog 4 1 gtb [.agg t.c, .sl 1 (p.map ic)] (fun zz => zz = .ret (.b true)) := by
  by_cases g1 : slT t 3000 = true
  case pos =>
    refine PFG_nil (PFG_start (O := O4) Ct4_ok hmix ho4 Tryd.func4 c4 rfl Tryd.ntmps4 Tryd.results4 ?_)
    simp (maxSteps := 4000000) +contextual (disch := first | omega | exact qdb_ok (by kernel_rfl) | exact okb_ok (by kernel_rfl)) only [bw1,bw2,bw3,bw5,bw6,bw7,bc0,bc2,bc3,bc4,bc5,bc6,AV.dl,AV.cells?,↓reduceIte,reduceCtorEq,Nat.reduceAdd,Nat.reduceSub,List.reduceReplicate,Nat.reduceLeDiff,Nat.reduceLT,Nat.reduceEqDiff,tfb,x4_15,g1]
    refine call9x (C := Ct4) (i := mk _) (j := mk _) rfl rfl rfl ?_
    simp (maxSteps := 4000000) +contextual (disch := first | omega | exact qdb_ok (by kernel_rfl) | exact okb_ok (by kernel_rfl)) only [bw2,bw3,bw5,bw6,bc2,bc3,bc4,bc5,AV.outs,AV.outF,packD,↓reduceIte]
  by_cases g2 : p.length ≤ 10
  case neg =>
    have g2' : (10 : Int) < p.length := by omega
    refine PFG_nil (PFG_start (O := O4) Ct4_ok hmix ho4 Tryd.func4 c4 rfl Tryd.ntmps4 Tryd.results4 ?_)
    simp (maxSteps := 4000000) +contextual (disch := first | omega | exact qdb_ok (by kernel_rfl) | exact okb_ok (by kernel_rfl)) only [bw1,bw2,bw3,bw4,bw5,bw6,bw7,bc0,bc1,bc2,bc3,bc4,bc5,bc6,binIs,AV.isSlice,AV.rows,AV.dl,AV.cells?,↓reduceIte,reduceCtorEq,Nat.reduceAdd,Nat.reduceSub,List.reduceReplicate,Nat.reduceLeDiff,Nat.reduceLT,Nat.reduceEqDiff,tfb,x4_15,g1, g2']
    refine call9x (C := Ct4) (i := mk _) (j := mk _) rfl rfl rfl ?_
    simp (maxSteps := 4000000) +contextual (disch := first | omega | exact qdb_ok (by kernel_rfl) | exact okb_ok (by kernel_rfl)) only [bw2,bw3,bw5,bw6,bc2,bc3,bc4,bc5,AV.outs,AV.outF,packD,↓reduceIte]
  have g2' : ¬ (10 : Int) < p.length := by omega
  have hsz0 := sl_sz g1
  have hsz : szT t := ⟨by omega, by omega⟩
  have hszp : t.hours.length ≤ 1000 ∧ t.groups.length ≤ 1000 := hsz
  have hsp : (t.hours.length ≤ 1000 ∧ t.groups.length ≤ 1000) ∧ p.length ≤ 1000 := ⟨hsz, by omega⟩
  have hsp' : szT t ∧ p.length ≤ 1000 := hsp
  have hf := fr_ref (t := t)
  have hh := hi_ref (t := t) (p := p)
  have hfl := fr_len (t := t)
  have hhl := hi_len (t := t) (p := p)
  obtain ⟨A, hA⟩ : ∃ A, frR t = A := ⟨_, rfl⟩
  obtain ⟨B, hB⟩ : ∃ B, hiR t p = B := ⟨_, rfl⟩
  rw [hA] at hf hfl
  rw [hB] at hh hhl
  refine PFG_nil (PFG_start (O := O4) Ct4_ok hmix ho4 Tryd.func4 c4 rfl Tryd.ntmps4 Tryd.results4 ?_)
  simp (maxSteps := 4000000) +contextual (disch := first | omega | exact qdb_ok (by kernel_rfl) | exact okb_ok (by kernel_rfl)) only [bw1,bw2,bw3,bw4,bw5,bw6,bw7,bc0,bc1,bc2,bc3,bc4,bc5,bc6,binIs,AV.isSlice,AV.rows,AV.dl,AV.cells?,↓reduceIte,reduceCtorEq,Nat.reduceAdd,Nat.reduceSub,List.reduceReplicate,Nat.reduceLeDiff,Nat.reduceLT,Nat.reduceEqDiff,tfb,x4_15,g1, g2']
  refine call16x (C := Ct4) (i := mk _) (j := mk _) rfl t hsz rfl ?_
  rw [hA]
  simp (maxSteps := 4000000) +contextual (disch := first | omega | exact qdb_ok (by kernel_rfl) | exact okb_ok (by kernel_rfl)) only [bw1,bw2,bw5,bw6,bc2,bc3,bc4,bc5,bc6,extV,extS,AV.dl,↓reduceIte,reduceCtorEq,Nat.reduceAdd,Nat.reduceLeDiff,Nat.reduceLT,tfb,x4_17,hszp, hf]
  refine call18x (C := Ct4) (i := mk _) (j := mk _) rfl t p 9999 hsp' (by decide) rfl rfl rfl ?_
  rw [hB]
  simp (maxSteps := 4000000) +contextual (disch := first | omega | exact qdb_ok (by kernel_rfl) | exact okb_ok (by kernel_rfl)) only [bw1,bw2,bw3,bw5,bw6,bc0,bc1,bc2,bc3,bc4,bc5,bc6,AV.frz,binIs,extV,extS,AV.dl,↓reduceIte,reduceCtorEq,Nat.reduceAdd,Nat.reduceLeDiff,Nat.reduceLT,Nat.reduceBEq,tfb,x4_14,x4_19,Sto.frz, AV.frz, hsp, hh, hfl, hhl, eq_self]
  refine call9x (C := Ct4) (i := mk _) (j := mk _) rfl rfl rfl ?_
  simp (maxSteps := 4000000) +contextual (disch := first | omega | exact qdb_ok (by kernel_rfl) | exact okb_ok (by kernel_rfl)) only [bw2,bw3,bw5,bw6,bc0,bc2,bc3,bc4,bc5,AV.outs,AV.outF,packD,↓reduceIte]
end Go.Proofs.YtofbbkacihnjdaaDoor.M4
